/- Texts of this claim, merged by a program: Tha Cpk. -/
import Derived.Test.YtldgbnlcnlfmeaaGreatMk5
import Derived.Deep.OwnRows
import Derived.Test.YtldgbnlcnlfmeaaGreatMk1
/- Words, and data right or wrong, drawn. Printed by gen65.py. -/
namespace Go.Proofs.YtldgbnlcnlfmeaaGreat
open Go.RowKit
set_option linter.unusedVariables false
set_option linter.unusedSimpArgs false

theorem mem_word {l : List Int} {s : Int} (h : s ∈ l) (hl : l.all (fun s => decide (-1 ≤ s ∧ s ≤ 2147483648)) = true) : -1 ≤ s ∧ s ≤ 2147483648 := by
  have := List.all_eq_true.1 hl s h; simpa only [decide_eq_true_eq] using this
theorem mul_word {x y : Int} (h0 : 0 ≤ x) (h1 : x ≤ 999999) (h2 : 0 ≤ y) (h3 : y ≤ 1999) : 0 ≤ x * y ∧ x * y ≤ 2147483648 := by
  refine ⟨Int.mul_nonneg h0 h2, ?_⟩
  have := Int.mul_le_mul h1 h3 h2 (by decide)
  omega
set_option maxRecDepth 100000 in
set_option maxHeartbeats 2000000 in
theorem C_spec_l3Word (w : World) (B : Nat) (hc : CurT w B) : Calls Tryz.prog 114 #[pB B] w (RetDT B w (DrI (-1) 2147483648)) := by
  have hB := hc.lt
  go_enter Tryz.func114, Tryz.ntmps114
  go_wp2_with fail
  refine Calls.mono (C_spec_l1Once _ B 10 (by repeat' (first | (with_reducible assumption) | (with_reducible refine Cur.far ?_ (by (try dsimp only); omega) _) | (with_reducible refine Cur.alloc ?_ _) | (with_reducible refine Cur.drewN ?_ _) | (with_reducible refine Cur.drew ?_))) (by decide) (by decide)) ?_
  rintro e w1 ⟨hd1, hc1, yes, rfl⟩
  have E1 : Dr B w w1 := (by repeat' (first | (with_reducible exact Dr.refl _ _) | (with_reducible assumption) | (with_reducible refine Dr.set ?_ (by (try dsimp only); omega) _) | (with_reducible refine Dr.alloc ?_ _) | (with_reducible refine Dr.drewN ?_ _) | (with_reducible refine Dr.drew ?_) | (with_reducible refine Dr.trans ?_ (by assumption))))
  have z1 := E1.size
  cases yes with
  | true =>
    go_wp2_with fail
    refine Calls.mono (C_spec_l1Int _ B _ [-1, 2147483647, 2147483648] (by repeat' (first | (with_reducible assumption) | (with_reducible refine Cur.far ?_ (by (try dsimp only); omega) _) | (with_reducible refine Cur.alloc ?_ _) | (with_reducible refine Cur.drewN ?_ _) | (with_reducible refine Cur.drew ?_))) (by (repeat (with_reducible refine rd_drewH ?_)); exact rd_litiA (by rfl) (by decide) (by first | (with_reducible rfl) | simp only [World.size_drew] | simp only [World.size_alloc, World.size_drew, size_drewN]) (by rfl) (by rfl) (by decide) (by (try simp only [World.size_alloc, World.size_setCell, size_drewN, World.size_drew]); omega)) (by decide) (by decide)) ?_
    rintro e w2 ⟨hd2, hc2, s, hs, rfl⟩
    have hw := mem_word hs (by decide)
    have E2 : Dr B w w2 := (by repeat' (first | (with_reducible exact Dr.refl _ _) | (with_reducible assumption) | (with_reducible refine Dr.set ?_ (by (try dsimp only); omega) _) | (with_reducible refine Dr.alloc ?_ _) | (with_reducible refine Dr.drewN ?_ _) | (with_reducible refine Dr.drew ?_) | (with_reducible refine Dr.trans ?_ (by assumption))))
    go_wp2
    go_ret
    exact ⟨E2, hc2, _, rfl, hw.1, hw.2⟩
  | false =>
    go_wp2_with fail
    refine Calls.mono (C_spec_l1Once _ B 4 (by repeat' (first | (with_reducible assumption) | (with_reducible refine Cur.far ?_ (by (try dsimp only); omega) _) | (with_reducible refine Cur.alloc ?_ _) | (with_reducible refine Cur.drewN ?_ _) | (with_reducible refine Cur.drew ?_))) (by decide) (by decide)) ?_
    rintro e w2 ⟨hd2, hc2, yes, rfl⟩
    have E2 : Dr B w w2 := (by repeat' (first | (with_reducible exact Dr.refl _ _) | (with_reducible assumption) | (with_reducible refine Dr.set ?_ (by (try dsimp only); omega) _) | (with_reducible refine Dr.alloc ?_ _) | (with_reducible refine Dr.drewN ?_ _) | (with_reducible refine Dr.drew ?_) | (with_reducible refine Dr.trans ?_ (by assumption))))
    have z2 := E2.size
    cases yes with
    | true =>
      go_wp2_with fail
      refine Calls.mono (C_spec_l1Int _ B _ [0, 1, 2147483646] (by repeat' (first | (with_reducible assumption) | (with_reducible refine Cur.far ?_ (by (try dsimp only); omega) _) | (with_reducible refine Cur.alloc ?_ _) | (with_reducible refine Cur.drewN ?_ _) | (with_reducible refine Cur.drew ?_))) (by (repeat (with_reducible refine rd_drewH ?_)); exact rd_litiA (by rfl) (by decide) (by first | (with_reducible rfl) | simp only [World.size_drew] | simp only [World.size_alloc, World.size_drew, size_drewN]) (by rfl) (by rfl) (by decide) (by (try simp only [World.size_alloc, World.size_setCell, size_drewN, World.size_drew]); omega)) (by decide) (by decide)) ?_
      rintro e w3 ⟨hd3, hc3, s, hs, rfl⟩
      have hw := mem_word hs (by decide)
      have E3 : Dr B w w3 := (by repeat' (first | (with_reducible exact Dr.refl _ _) | (with_reducible assumption) | (with_reducible refine Dr.set ?_ (by (try dsimp only); omega) _) | (with_reducible refine Dr.alloc ?_ _) | (with_reducible refine Dr.drewN ?_ _) | (with_reducible refine Dr.drew ?_) | (with_reducible refine Dr.trans ?_ (by assumption))))
      go_wp2
      go_ret
      exact ⟨E3, hc3, _, rfl, hw.1, hw.2⟩
    | false =>
      go_wp2_with fail
      refine Calls.mono (C_spec_l1Below _ B 1000000 (by repeat' (first | (with_reducible assumption) | (with_reducible refine Cur.far ?_ (by (try dsimp only); omega) _) | (with_reducible refine Cur.alloc ?_ _) | (with_reducible refine Cur.drewN ?_ _) | (with_reducible refine Cur.drew ?_))) (by decide) (by decide)) ?_
      rintro e w3 ⟨hd3, hc3, x, rfl, hx0, hx1⟩
      have E3 : Dr B w w3 := (by repeat' (first | (with_reducible exact Dr.refl _ _) | (with_reducible assumption) | (with_reducible refine Dr.set ?_ (by (try dsimp only); omega) _) | (with_reducible refine Dr.alloc ?_ _) | (with_reducible refine Dr.drewN ?_ _) | (with_reducible refine Dr.drew ?_) | (with_reducible refine Dr.trans ?_ (by assumption))))
      go_wp2_with fail
      refine Calls.mono (C_spec_l1Below _ B 2000 (by repeat' (first | (with_reducible assumption) | (with_reducible refine Cur.far ?_ (by (try dsimp only); omega) _) | (with_reducible refine Cur.alloc ?_ _) | (with_reducible refine Cur.drewN ?_ _) | (with_reducible refine Cur.drew ?_))) (by decide) (by decide)) ?_
      rintro e w4 ⟨hd4, hc4, y, rfl, hy0, hy1⟩
      have E4 : Dr B w w4 := (by repeat' (first | (with_reducible exact Dr.refl _ _) | (with_reducible assumption) | (with_reducible refine Dr.set ?_ (by (try dsimp only); omega) _) | (with_reducible refine Dr.alloc ?_ _) | (with_reducible refine Dr.drewN ?_ _) | (with_reducible refine Dr.drew ?_) | (with_reducible refine Dr.trans ?_ (by assumption))))
      have hm := mul_word hx0 (show x ≤ 999999 by omega) hy0 (show y ≤ 1999 by omega)
      have hv : IntKind.i64.wrap (x * y) = x * y := IntWalk.i64_in _ (by omega)
      go_wp2
      go_ret
      exact ⟨E4, hc4, _, rfl, by omega, by omega⟩
theorem rdI_made (w : World) (te : TypeId) (n : Nat) (hn : n ≤ 1000) : RdI (.sl .byte) w.heap.size (w.heap.size + 1) (w.alloc (.cells (madeCells #[.int .u8 0] n) te)) [.slice (some ⟨w.heap.size, 0, none⟩) n n] (List.replicate n (0 : UInt8)) := by
  have he : madeCells #[.int .u8 0] n = ((List.replicate n (0 : UInt8)).map flatB.enc).toArray := by
    rw [← Array.toList_inj, toList_madeCells_one, List.map_replicate]; rfl
  have hb : Blk (w.alloc (.cells (madeCells #[.int .u8 0] n) te)) w.heap.size te ((List.replicate n (0 : UInt8)).map flatB.enc).toArray := by rw [he]; exact Blk.new _ _ _
  have hr : Row flatB (w.alloc (.cells (madeCells #[.int .u8 0] n) te)) w.heap.size te (.slice (some ⟨w.heap.size, 0, none⟩) n n) (List.replicate n (0 : UInt8)) := by
    refine ⟨?_, fun _ _ => trivial⟩
    rw [List.length_replicate]
    exact ownsRow_blk hb (Nat.le_refl _) (by simp) (by unfold maxLen; omega)
  have h := (GRow.ofRow rfl hr).rdI
  rw [World.size_alloc] at h
  exact h
set_option maxRecDepth 100000 in
set_option maxHeartbeats 4000000 in
theorem C_spec_l8Any (w : World) (B : Nat) (hc : CurT w B) :
    Calls Tryz.prog 112 #[pB B] w (RetDT B w (DrR tData w okThing)) := by
  have hB := hc.lt
  go_enter Tryz.func112, Tryz.ntmps112
  go_wp2_with fail
  refine Calls.mono (C_spec_l8Draw _ B (by repeat' (first | (with_reducible assumption) | (with_reducible refine Cur.far ?_ (by (try dsimp only); omega) _) | (with_reducible refine Cur.alloc ?_ _) | (with_reducible refine Cur.drewN ?_ _) | (with_reducible refine Cur.drew ?_)))) ?_
  rintro e w1 ⟨hd1, hc1, cs, x, rfl, hQ, hok⟩
  obtain ⟨A0, c0, A1, c1, A2, c2, rfl, -, -, -, hi3, hi4⟩ := rd_Data hQ.rd
  have z1 := hd1.size
  simp only [World.size_alloc] at z1
  have D1 : Dr B w w1 := (by repeat' (first | (with_reducible exact Dr.refl _ _) | (with_reducible assumption) | (with_reducible refine Dr.set ?_ (by (try dsimp only); omega) _) | (with_reducible refine Dr.alloc ?_ _) | (with_reducible refine Dr.drewN ?_ _) | (with_reducible refine Dr.drew ?_) | (with_reducible refine Dr.trans ?_ (by assumption))))
  have hO1 : Blk w1 w.heap.size 34 #[.slice none 0 0, .slice none 0 0, .slice none 0 0, .int .i64 0, .int .i64 0] := Dr.blk hd1 (Blk.new w _ _) (by omega)
  rw [World.size_alloc] at hQ
  clear hd1
  go_wp2_with fail
  refine Calls.mono (C_spec_l1Below _ B 12 (by repeat' (first | (with_reducible assumption) | (with_reducible refine Cur.far ?_ (by (try dsimp only); omega) _) | (with_reducible refine Cur.alloc ?_ _) | (with_reducible refine Cur.drewN ?_ _) | (with_reducible refine Cur.drew ?_))) (by decide) (by decide)) ?_
  rintro e w2 ⟨hd2, hc2, k, rfl, hk0, hk1⟩
  have z2 := hd2.size
  simp only [World.size_alloc] at z2
  have E2 : Dr B w1 w2 := (by repeat' (first | (with_reducible exact Dr.refl _ _) | (with_reducible assumption) | (with_reducible refine Dr.set ?_ (by (try dsimp only); omega) _) | (with_reducible refine Dr.alloc ?_ _) | (with_reducible refine Dr.drewN ?_ _) | (with_reducible refine Dr.drew ?_) | (with_reducible refine Dr.trans ?_ (by assumption))))
  have D2 := Lib.hid (D1.trans E2)
  have hO2 := Dr.blk E2 hO1 (by omega)
  have hN2 : Blk w2 w1.heap.size 34 #[.slice A0 (List.length x.1) c0, .slice A1 (List.length x.2.1) c1, .slice A2 (List.length x.2.2.1) c2, .int .i64 x.2.2.2.1, .int .i64 x.2.2.2.2] := Dr.blk hd2 (Blk.new w1 _ _) (by omega)
  obtain ⟨p0, p1, p2⟩ := RdI.dataP (hQ.dr E2 (by omega))
  have hzN := hN2.lt
  clear hd2 hO1 E2 D1 hc1 hQ
  obtain ⟨k0, k1, k2, k3, k4, j0, j1, j2, j3, j4⟩ := blk5 hN2
  have hcase : k = 0 ∨ k = 1 ∨ k = 2 ∨ k = 3 ∨ k = 4 ∨ (k ≠ 0 ∧ k ≠ 1 ∧ k ≠ 2 ∧ k ≠ 3 ∧ k ≠ 4) := by omega
  rcases hcase with rfl | rfl | rfl | rfl | rfl | hk
  · go_wp2_with fail
    refine Calls.mono (C_spec_l4Any _ B (by repeat' (first | (with_reducible assumption) | (with_reducible refine Cur.far ?_ (by (try dsimp only); omega) _) | (with_reducible refine Cur.alloc ?_ _) | (with_reducible refine Cur.drewN ?_ _) | (with_reducible refine Cur.drew ?_)))) ?_
    rintro e w3 ⟨hd3, hc3, cs3, n3, rfl, hQ3, hok3⟩
    obtain ⟨A3, c3, rfl⟩ := Ty.rd_slv hQ3.rd
    have z3 := hd3.size
    (try simp only [World.size_alloc, World.size_setCell, World.size_drew, size_drewN] at z3)
    have E3 : Dr B w2 w3 := (by repeat' (first | (with_reducible exact Dr.refl _ _) | (with_reducible assumption) | (with_reducible refine Dr.set ?_ (by (try dsimp only); omega) _) | (with_reducible refine Dr.alloc ?_ _) | (with_reducible refine Dr.drewN ?_ _) | (with_reducible refine Dr.drew ?_) | (with_reducible refine Dr.trans ?_ (by assumption))))
    (try simp only [World.size_alloc, World.size_setCell, World.size_drew, size_drewN] at hQ3)
    clear hd3
    have hO3 := Dr.blk E3 hO2 (by omega)
    have hN3 := Dr.blk E3 hN2 (by omega)
    clear k0 k1 k2 k3 k4 j0 j1 j2 j3 j4
    obtain ⟨k0, k1, k2, k3, k4, j0, j1, j2, j3, j4⟩ := blk5 hN3
    have hzN3 := hN3.lt
    have hO9 := hO3.far (p := ⟨w1.heap.size, 0, none⟩) (by dsimp only; omega) (.slice A3 (List.length n3) c3)
    have hN9 := hN3.set_ 0 (.slice A3 (List.length n3) c3)
    have C9 := Cur.far hc3 (p := ⟨w1.heap.size, 0, none⟩) (by dsimp only; omega) (.slice A3 (List.length n3) c3)
    have D9 := Dr.set (D2.out.trans E3) (p := ⟨w1.heap.size, 0, none⟩) (.inr (by dsimp only; omega)) (.slice A3 (List.length n3) c3)
    have P0 := (hQ3).set (p := ⟨w1.heap.size, 0, none⟩) (.inl (by dsimp only; omega)) (.slice A3 (List.length n3) c3)
    have P1 := (p1.dr E3 (by omega)).set (p := ⟨w1.heap.size, 0, none⟩) (.inr (by dsimp only; omega)) (.slice A3 (List.length n3) c3)
    have P2 := (p2.dr E3 (by omega)).set (p := ⟨w1.heap.size, 0, none⟩) (.inr (by dsimp only; omega)) (.slice A3 (List.length n3) c3)
    have Q9 : RdI tData (w.heap.size + 1) w3.heap.size (w3.setCell ⟨w1.heap.size, 0, none⟩ (.slice A3 (List.length n3) c3)) [.slice A3 (List.length n3) c3, .slice A1 (List.length x.2.1) c1, .slice A2 (List.length x.2.2.1) c2, .int .i64 x.2.2.2.1, .int .i64 x.2.2.2.2] (n3, x.2) := RdI.data (x := (n3, x.2)) (P0.mono (by omega) (by have := P0.1; rw [World.size_setCell] at this; omega) (by rw [World.size_setCell]; exact Nat.le_refl _)) (P1.mono (by omega) (by have := P1.1; rw [World.size_setCell] at this; omega) (by rw [World.size_setCell]; exact Nat.le_refl _)) (P2.mono (by omega) (by have := P2.1; rw [World.size_setCell] at this; omega) (by rw [World.size_setCell]; exact Nat.le_refl _)) hi3 hi4
    clear P0 P1 P2 p0 p1 p2 hN3 hO3 hc3 E3 hO2 hN2 hc2
    obtain ⟨o0, o1, o2, o3, o4, q0, q1, q2, q3, q4⟩ := blk5 hO9
    have zO9 := hO9.lt
    have zN9 := hN9.lt
    obtain ⟨m0, m1, m2, m3, m4, -⟩ := blk5 hN9
    go_wp2_with fail
    obtain ⟨w9, hw9⟩ : ∃ w9, w9 = ((((((w3.setCell ⟨w1.heap.size, 0, none⟩ (.slice A3 (List.length n3) c3)).setCell ⟨w.heap.size, 0, none⟩ (.slice A3 (List.length n3) c3)).setCell ⟨w.heap.size, 1, none⟩ (.slice A1 (List.length x.2.1) c1)).setCell ⟨w.heap.size, 2, none⟩ (.slice A2 (List.length x.2.2.1) c2)).setCell ⟨w.heap.size, 3, none⟩ (.int .i64 x.2.2.2.1)).setCell ⟨w.heap.size, 4, none⟩ (.int .i64 x.2.2.2.2)) := ⟨_, rfl⟩
    obtain ⟨hP9, hK9, hs9, C10, F10⟩ := stored5 (v0 := .slice A3 (List.length n3) c3) (v1 := .slice A1 (List.length x.2.1) c1) (v2 := .slice A2 (List.length x.2.2.1) c2) (v3 := .int .i64 x.2.2.2.1) (v4 := .int .i64 x.2.2.2.2) hO9 (.inl hw9) (B := B) hB C9
    rw [← hw9]
    obtain ⟨o0, o1, o2, o3, o4, -⟩ := blk5 hP9
    have D10 := F10 w (Nat.le_refl _) D9
    refine bodyPost_ret (v := .agg #[.slice A3 (List.length n3) c3, .slice A1 (List.length x.2.1) c1, .slice A2 (List.length x.2.2.1) c2, .int .i64 x.2.2.2.1, .int .i64 x.2.2.2.2]) (by simp [results, Tryz.results112, go_sem, o0, o1, o2, o3, o4]) rfl ?_
    exact ⟨D10, C10, _, (n3, x.2), rfl, (RdI.keep (Q9) hs9 (fun q h1 h2 => hK9 q (by omega))).mono (by omega) (by have := Q9.1; omega) (Nat.le_refl _), ⟨hok3, hok.2⟩⟩
  · go_wp2_with fail
    refine Calls.mono (C_spec_l4Any _ B (by repeat' (first | (with_reducible assumption) | (with_reducible refine Cur.far ?_ (by (try dsimp only); omega) _) | (with_reducible refine Cur.alloc ?_ _) | (with_reducible refine Cur.drewN ?_ _) | (with_reducible refine Cur.drew ?_)))) ?_
    rintro e w3 ⟨hd3, hc3, cs3, n3, rfl, hQ3, hok3⟩
    obtain ⟨A3, c3, rfl⟩ := Ty.rd_slv hQ3.rd
    have z3 := hd3.size
    (try simp only [World.size_alloc, World.size_setCell, World.size_drew, size_drewN] at z3)
    have E3 : Dr B w2 w3 := (by repeat' (first | (with_reducible exact Dr.refl _ _) | (with_reducible assumption) | (with_reducible refine Dr.set ?_ (by (try dsimp only); omega) _) | (with_reducible refine Dr.alloc ?_ _) | (with_reducible refine Dr.drewN ?_ _) | (with_reducible refine Dr.drew ?_) | (with_reducible refine Dr.trans ?_ (by assumption))))
    (try simp only [World.size_alloc, World.size_setCell, World.size_drew, size_drewN] at hQ3)
    clear hd3
    have hO3 := Dr.blk E3 hO2 (by omega)
    have hN3 := Dr.blk E3 hN2 (by omega)
    clear k0 k1 k2 k3 k4 j0 j1 j2 j3 j4
    obtain ⟨k0, k1, k2, k3, k4, j0, j1, j2, j3, j4⟩ := blk5 hN3
    have hzN3 := hN3.lt
    have hO9 := hO3.far (p := ⟨w1.heap.size, 2, none⟩) (by dsimp only; omega) (.slice A3 (List.length n3) c3)
    have hN9 := hN3.set_ 2 (.slice A3 (List.length n3) c3)
    have C9 := Cur.far hc3 (p := ⟨w1.heap.size, 2, none⟩) (by dsimp only; omega) (.slice A3 (List.length n3) c3)
    have D9 := Dr.set (D2.out.trans E3) (p := ⟨w1.heap.size, 2, none⟩) (.inr (by dsimp only; omega)) (.slice A3 (List.length n3) c3)
    have P0 := (p0.dr E3 (by omega)).set (p := ⟨w1.heap.size, 2, none⟩) (.inr (by dsimp only; omega)) (.slice A3 (List.length n3) c3)
    have P1 := (p1.dr E3 (by omega)).set (p := ⟨w1.heap.size, 2, none⟩) (.inr (by dsimp only; omega)) (.slice A3 (List.length n3) c3)
    have P2 := (hQ3).set (p := ⟨w1.heap.size, 2, none⟩) (.inl (by dsimp only; omega)) (.slice A3 (List.length n3) c3)
    have Q9 : RdI tData (w.heap.size + 1) w3.heap.size (w3.setCell ⟨w1.heap.size, 2, none⟩ (.slice A3 (List.length n3) c3)) [.slice A0 (List.length x.1) c0, .slice A1 (List.length x.2.1) c1, .slice A3 (List.length n3) c3, .int .i64 x.2.2.2.1, .int .i64 x.2.2.2.2] (x.1, x.2.1, n3, x.2.2.2) := RdI.data (x := (x.1, x.2.1, n3, x.2.2.2)) (P0.mono (by omega) (by have := P0.1; rw [World.size_setCell] at this; omega) (by rw [World.size_setCell]; exact Nat.le_refl _)) (P1.mono (by omega) (by have := P1.1; rw [World.size_setCell] at this; omega) (by rw [World.size_setCell]; exact Nat.le_refl _)) (P2.mono (by omega) (by have := P2.1; rw [World.size_setCell] at this; omega) (by rw [World.size_setCell]; exact Nat.le_refl _)) hi3 hi4
    clear P0 P1 P2 p0 p1 p2 hN3 hO3 hc3 E3 hO2 hN2 hc2
    obtain ⟨o0, o1, o2, o3, o4, q0, q1, q2, q3, q4⟩ := blk5 hO9
    have zO9 := hO9.lt
    have zN9 := hN9.lt
    obtain ⟨m0, m1, m2, m3, m4, -⟩ := blk5 hN9
    go_wp2_with fail
    obtain ⟨w9, hw9⟩ : ∃ w9, w9 = ((((((w3.setCell ⟨w1.heap.size, 2, none⟩ (.slice A3 (List.length n3) c3)).setCell ⟨w.heap.size, 0, none⟩ (.slice A0 (List.length x.1) c0)).setCell ⟨w.heap.size, 1, none⟩ (.slice A1 (List.length x.2.1) c1)).setCell ⟨w.heap.size, 2, none⟩ (.slice A3 (List.length n3) c3)).setCell ⟨w.heap.size, 3, none⟩ (.int .i64 x.2.2.2.1)).setCell ⟨w.heap.size, 4, none⟩ (.int .i64 x.2.2.2.2)) := ⟨_, rfl⟩
    obtain ⟨hP9, hK9, hs9, C10, F10⟩ := stored5 (v0 := .slice A0 (List.length x.1) c0) (v1 := .slice A1 (List.length x.2.1) c1) (v2 := .slice A3 (List.length n3) c3) (v3 := .int .i64 x.2.2.2.1) (v4 := .int .i64 x.2.2.2.2) hO9 (.inl hw9) (B := B) hB C9
    rw [← hw9]
    obtain ⟨o0, o1, o2, o3, o4, -⟩ := blk5 hP9
    have D10 := F10 w (Nat.le_refl _) D9
    refine bodyPost_ret (v := .agg #[.slice A0 (List.length x.1) c0, .slice A1 (List.length x.2.1) c1, .slice A3 (List.length n3) c3, .int .i64 x.2.2.2.1, .int .i64 x.2.2.2.2]) (by simp [results, Tryz.results112, go_sem, o0, o1, o2, o3, o4]) rfl ?_
    exact ⟨D10, C10, _, (x.1, x.2.1, n3, x.2.2.2), rfl, (RdI.keep (Q9) hs9 (fun q h1 h2 => hK9 q (by omega))).mono (by omega) (by have := Q9.1; omega) (Nat.le_refl _), ⟨hok.1, hok.2.1, hok3⟩⟩
  · go_wp2_with fail
    refine Calls.mono (C_spec_l1Int _ B _ [-1, 100000, 100001] (by repeat' (first | (with_reducible assumption) | (with_reducible refine Cur.far ?_ (by (try dsimp only); omega) _) | (with_reducible refine Cur.alloc ?_ _) | (with_reducible refine Cur.drewN ?_ _) | (with_reducible refine Cur.drew ?_))) (by (repeat (with_reducible refine rd_drewH ?_)); exact rd_litiA (by rfl) (by decide) (by first | (with_reducible rfl) | simp only [World.size_drew] | simp only [World.size_alloc, World.size_drew, size_drewN]) (by rfl) (by rfl) (by decide) (by (try simp only [World.size_alloc, World.size_setCell, size_drewN, World.size_drew]); omega)) (by decide) (by decide)) ?_
    rintro e w3 ⟨hd3, hc3, s, hs, rfl⟩
    have z3 := hd3.size
    (try simp only [World.size_alloc, World.size_setCell, World.size_drew, size_drewN] at z3)
    have E3 : Dr B w2 w3 := (by repeat' (first | (with_reducible exact Dr.refl _ _) | (with_reducible assumption) | (with_reducible refine Dr.set ?_ (by (try dsimp only); omega) _) | (with_reducible refine Dr.alloc ?_ _) | (with_reducible refine Dr.drewN ?_ _) | (with_reducible refine Dr.drew ?_) | (with_reducible refine Dr.trans ?_ (by assumption))))
    have hnew : -9223372036854775808 ≤ s ∧ s ≤ 9223372036854775807 := by have := mem_word hs (by decide); omega
    clear hd3
    have hO3 := Dr.blk E3 hO2 (by omega)
    have hN3 := Dr.blk E3 hN2 (by omega)
    clear k0 k1 k2 k3 k4 j0 j1 j2 j3 j4
    obtain ⟨k0, k1, k2, k3, k4, j0, j1, j2, j3, j4⟩ := blk5 hN3
    have hzN3 := hN3.lt
    have hO9 := hO3.far (p := ⟨w1.heap.size, 3, none⟩) (by dsimp only; omega) (.int .i64 s)
    have hN9 := hN3.set_ 3 (.int .i64 s)
    have C9 := Cur.far hc3 (p := ⟨w1.heap.size, 3, none⟩) (by dsimp only; omega) (.int .i64 s)
    have D9 := Dr.set (D2.out.trans E3) (p := ⟨w1.heap.size, 3, none⟩) (.inr (by dsimp only; omega)) (.int .i64 s)
    have P0 := (p0.dr E3 (by omega)).set (p := ⟨w1.heap.size, 3, none⟩) (.inr (by dsimp only; omega)) (.int .i64 s)
    have P1 := (p1.dr E3 (by omega)).set (p := ⟨w1.heap.size, 3, none⟩) (.inr (by dsimp only; omega)) (.int .i64 s)
    have P2 := (p2.dr E3 (by omega)).set (p := ⟨w1.heap.size, 3, none⟩) (.inr (by dsimp only; omega)) (.int .i64 s)
    have Q9 : RdI tData (w.heap.size + 1) w3.heap.size (w3.setCell ⟨w1.heap.size, 3, none⟩ (.int .i64 s)) [.slice A0 (List.length x.1) c0, .slice A1 (List.length x.2.1) c1, .slice A2 (List.length x.2.2.1) c2, .int .i64 s, .int .i64 x.2.2.2.2] (x.1, x.2.1, x.2.2.1, s, x.2.2.2.2) := RdI.data (x := (x.1, x.2.1, x.2.2.1, s, x.2.2.2.2)) (P0.mono (by omega) (by have := P0.1; rw [World.size_setCell] at this; omega) (by rw [World.size_setCell]; exact Nat.le_refl _)) (P1.mono (by omega) (by have := P1.1; rw [World.size_setCell] at this; omega) (by rw [World.size_setCell]; exact Nat.le_refl _)) (P2.mono (by omega) (by have := P2.1; rw [World.size_setCell] at this; omega) (by rw [World.size_setCell]; exact Nat.le_refl _)) hnew hi4
    clear P0 P1 P2 p0 p1 p2 hN3 hO3 hc3 E3 hO2 hN2 hc2
    obtain ⟨o0, o1, o2, o3, o4, q0, q1, q2, q3, q4⟩ := blk5 hO9
    have zO9 := hO9.lt
    have zN9 := hN9.lt
    obtain ⟨m0, m1, m2, m3, m4, -⟩ := blk5 hN9
    go_wp2_with fail
    obtain ⟨w9, hw9⟩ : ∃ w9, w9 = ((((((w3.setCell ⟨w1.heap.size, 3, none⟩ (.int .i64 s)).setCell ⟨w.heap.size, 0, none⟩ (.slice A0 (List.length x.1) c0)).setCell ⟨w.heap.size, 1, none⟩ (.slice A1 (List.length x.2.1) c1)).setCell ⟨w.heap.size, 2, none⟩ (.slice A2 (List.length x.2.2.1) c2)).setCell ⟨w.heap.size, 3, none⟩ (.int .i64 s)).setCell ⟨w.heap.size, 4, none⟩ (.int .i64 x.2.2.2.2)) := ⟨_, rfl⟩
    obtain ⟨hP9, hK9, hs9, C10, F10⟩ := stored5 (v0 := .slice A0 (List.length x.1) c0) (v1 := .slice A1 (List.length x.2.1) c1) (v2 := .slice A2 (List.length x.2.2.1) c2) (v3 := .int .i64 s) (v4 := .int .i64 x.2.2.2.2) hO9 (.inl hw9) (B := B) hB C9
    rw [← hw9]
    obtain ⟨o0, o1, o2, o3, o4, -⟩ := blk5 hP9
    have D10 := F10 w (Nat.le_refl _) D9
    refine bodyPost_ret (v := .agg #[.slice A0 (List.length x.1) c0, .slice A1 (List.length x.2.1) c1, .slice A2 (List.length x.2.2.1) c2, .int .i64 s, .int .i64 x.2.2.2.2]) (by simp [results, Tryz.results112, go_sem, o0, o1, o2, o3, o4]) rfl ?_
    exact ⟨D10, C10, _, (x.1, x.2.1, x.2.2.1, s, x.2.2.2.2), rfl, (RdI.keep (Q9) hs9 (fun q h1 h2 => hK9 q (by omega))).mono (by omega) (by have := Q9.1; omega) (Nat.le_refl _), hok⟩
  · go_wp2_with fail
    refine Calls.mono (C_spec_l3Word _ B (by repeat' (first | (with_reducible assumption) | (with_reducible refine Cur.far ?_ (by (try dsimp only); omega) _) | (with_reducible refine Cur.alloc ?_ _) | (with_reducible refine Cur.drewN ?_ _) | (with_reducible refine Cur.drew ?_)))) ?_
    rintro e w3 ⟨hd3, hc3, s, rfl, hs0, hs1⟩
    have z3 := hd3.size
    (try simp only [World.size_alloc, World.size_setCell, World.size_drew, size_drewN] at z3)
    have E3 : Dr B w2 w3 := (by repeat' (first | (with_reducible exact Dr.refl _ _) | (with_reducible assumption) | (with_reducible refine Dr.set ?_ (by (try dsimp only); omega) _) | (with_reducible refine Dr.alloc ?_ _) | (with_reducible refine Dr.drewN ?_ _) | (with_reducible refine Dr.drew ?_) | (with_reducible refine Dr.trans ?_ (by assumption))))
    have hnew : -9223372036854775808 ≤ s ∧ s ≤ 9223372036854775807 := by omega
    clear hd3
    have hO3 := Dr.blk E3 hO2 (by omega)
    have hN3 := Dr.blk E3 hN2 (by omega)
    clear k0 k1 k2 k3 k4 j0 j1 j2 j3 j4
    obtain ⟨k0, k1, k2, k3, k4, j0, j1, j2, j3, j4⟩ := blk5 hN3
    have hzN3 := hN3.lt
    have hO9 := hO3.far (p := ⟨w1.heap.size, 4, none⟩) (by dsimp only; omega) (.int .i64 s)
    have hN9 := hN3.set_ 4 (.int .i64 s)
    have C9 := Cur.far hc3 (p := ⟨w1.heap.size, 4, none⟩) (by dsimp only; omega) (.int .i64 s)
    have D9 := Dr.set (D2.out.trans E3) (p := ⟨w1.heap.size, 4, none⟩) (.inr (by dsimp only; omega)) (.int .i64 s)
    have P0 := (p0.dr E3 (by omega)).set (p := ⟨w1.heap.size, 4, none⟩) (.inr (by dsimp only; omega)) (.int .i64 s)
    have P1 := (p1.dr E3 (by omega)).set (p := ⟨w1.heap.size, 4, none⟩) (.inr (by dsimp only; omega)) (.int .i64 s)
    have P2 := (p2.dr E3 (by omega)).set (p := ⟨w1.heap.size, 4, none⟩) (.inr (by dsimp only; omega)) (.int .i64 s)
    have Q9 : RdI tData (w.heap.size + 1) w3.heap.size (w3.setCell ⟨w1.heap.size, 4, none⟩ (.int .i64 s)) [.slice A0 (List.length x.1) c0, .slice A1 (List.length x.2.1) c1, .slice A2 (List.length x.2.2.1) c2, .int .i64 x.2.2.2.1, .int .i64 s] (x.1, x.2.1, x.2.2.1, x.2.2.2.1, s) := RdI.data (x := (x.1, x.2.1, x.2.2.1, x.2.2.2.1, s)) (P0.mono (by omega) (by have := P0.1; rw [World.size_setCell] at this; omega) (by rw [World.size_setCell]; exact Nat.le_refl _)) (P1.mono (by omega) (by have := P1.1; rw [World.size_setCell] at this; omega) (by rw [World.size_setCell]; exact Nat.le_refl _)) (P2.mono (by omega) (by have := P2.1; rw [World.size_setCell] at this; omega) (by rw [World.size_setCell]; exact Nat.le_refl _)) hi3 hnew
    clear P0 P1 P2 p0 p1 p2 hN3 hO3 hc3 E3 hO2 hN2 hc2
    obtain ⟨o0, o1, o2, o3, o4, q0, q1, q2, q3, q4⟩ := blk5 hO9
    have zO9 := hO9.lt
    have zN9 := hN9.lt
    obtain ⟨m0, m1, m2, m3, m4, -⟩ := blk5 hN9
    go_wp2_with fail
    obtain ⟨w9, hw9⟩ : ∃ w9, w9 = ((((((w3.setCell ⟨w1.heap.size, 4, none⟩ (.int .i64 s)).setCell ⟨w.heap.size, 0, none⟩ (.slice A0 (List.length x.1) c0)).setCell ⟨w.heap.size, 1, none⟩ (.slice A1 (List.length x.2.1) c1)).setCell ⟨w.heap.size, 2, none⟩ (.slice A2 (List.length x.2.2.1) c2)).setCell ⟨w.heap.size, 3, none⟩ (.int .i64 x.2.2.2.1)).setCell ⟨w.heap.size, 4, none⟩ (.int .i64 s)) := ⟨_, rfl⟩
    obtain ⟨hP9, hK9, hs9, C10, F10⟩ := stored5 (v0 := .slice A0 (List.length x.1) c0) (v1 := .slice A1 (List.length x.2.1) c1) (v2 := .slice A2 (List.length x.2.2.1) c2) (v3 := .int .i64 x.2.2.2.1) (v4 := .int .i64 s) hO9 (.inl hw9) (B := B) hB C9
    rw [← hw9]
    obtain ⟨o0, o1, o2, o3, o4, -⟩ := blk5 hP9
    have D10 := F10 w (Nat.le_refl _) D9
    refine bodyPost_ret (v := .agg #[.slice A0 (List.length x.1) c0, .slice A1 (List.length x.2.1) c1, .slice A2 (List.length x.2.2.1) c2, .int .i64 x.2.2.2.1, .int .i64 s]) (by simp [results, Tryz.results112, go_sem, o0, o1, o2, o3, o4]) rfl ?_
    exact ⟨D10, C10, _, (x.1, x.2.1, x.2.2.1, x.2.2.2.1, s), rfl, (RdI.keep (Q9) hs9 (fun q h1 h2 => hK9 q (by omega))).mono (by omega) (by have := Q9.1; omega) (Nat.le_refl _), hok⟩
  · go_wp2_with fail
    refine Calls.mono (C_spec_l1Below _ B 3 (by repeat' (first | (with_reducible assumption) | (with_reducible refine Cur.far ?_ (by (try dsimp only); omega) _) | (with_reducible refine Cur.alloc ?_ _) | (with_reducible refine Cur.drewN ?_ _) | (with_reducible refine Cur.drew ?_))) (by decide) (by decide)) ?_
    rintro e wa ⟨hda, hca, m, rfl, hm0, hm1⟩
    obtain ⟨m, rfl⟩ : ∃ i : Nat, m = i := ⟨m.toNat, by omega⟩
    have za := hda.size
    (try simp only [World.size_alloc, World.size_setCell, World.size_drew, size_drewN] at za)
    have Ea : Dr B w2 wa := (by repeat' (first | (with_reducible exact Dr.refl _ _) | (with_reducible assumption) | (with_reducible refine Dr.set ?_ (by (try dsimp only); omega) _) | (with_reducible refine Dr.alloc ?_ _) | (with_reducible refine Dr.drewN ?_ _) | (with_reducible refine Dr.drew ?_) | (with_reducible refine Dr.trans ?_ (by assumption))))
    clear hda
    have hv : IntKind.i64.wrap (59 + (m : Int)) = 59 + (m : Int) := IntWalk.i64_in _ (by omega)
    have hmk : ∀ W : World, (Instr.makeSlice 22 (.int .i64 (59 + (m : Int))) (.int .i64 (59 + (m : Int)))).run Tryz.prog W = .ok (.slice (some ⟨W.heap.size, 0, none⟩) (59 + m) (59 + m)) (W.alloc (.cells (madeCells #[.int .u8 0] (59 + m)) 5)) := fun W => by
      have := run_make_row' (P := Tryz.prog) 22 5 (.int .u8 0) 1 Tryz.underlying22 info_Byte rfl .i64 .i64 (59 + m) (by omega) (by omega) W
      rw [show ((59 + m : Nat) : Int) = 59 + (m : Int) by omega] at this; exact this
    obtain ⟨w3, hw3⟩ : ∃ w3, w3 = wa.alloc (.cells (madeCells #[.int .u8 0] (59 + m)) 5) := ⟨_, rfl⟩
    have E3 : Dr B w2 w3 := by rw [hw3]; exact Dr.alloc Ea _
    have hc3 : CurT w3 B := by rw [hw3]; exact Cur.alloc hca _
    have z3 : w2.heap.size < w3.heap.size := by rw [hw3, World.size_alloc]; omega
    have hQ3 : RdI (.sl .byte) wa.heap.size w3.heap.size w3 [.slice (some ⟨wa.heap.size, 0, none⟩) (59 + m) (59 + m)] (List.replicate (59 + m) (0 : UInt8)) := by
      rw [hw3, World.size_alloc]; exact rdI_made _ _ _ (by omega)
    have hlr : List.length (List.replicate (59 + m) (0 : UInt8)) ≤ 61 := by rw [List.length_replicate]; omega
    have hO3 := Dr.blk E3 hO2 (by omega)
    have hN3 := Dr.blk E3 hN2 (by omega)
    clear k0 k1 k2 k3 k4 j0 j1 j2 j3 j4
    obtain ⟨k0, k1, k2, k3, k4, j0, j1, j2, j3, j4⟩ := blk5 hN3
    have hzN3 := hN3.lt
    have hO9 := hO3.far (p := ⟨w1.heap.size, 1, none⟩) (by dsimp only; omega) (.slice (some ⟨wa.heap.size, 0, none⟩) (59 + m) (59 + m))
    have hN9 := hN3.set_ 1 (.slice (some ⟨wa.heap.size, 0, none⟩) (59 + m) (59 + m))
    have C9 := Cur.far hc3 (p := ⟨w1.heap.size, 1, none⟩) (by dsimp only; omega) (.slice (some ⟨wa.heap.size, 0, none⟩) (59 + m) (59 + m))
    have D9 := Dr.set (D2.out.trans E3) (p := ⟨w1.heap.size, 1, none⟩) (.inr (by dsimp only; omega)) (.slice (some ⟨wa.heap.size, 0, none⟩) (59 + m) (59 + m))
    have P0 := (p0.dr E3 (by omega)).set (p := ⟨w1.heap.size, 1, none⟩) (.inr (by dsimp only; omega)) (.slice (some ⟨wa.heap.size, 0, none⟩) (59 + m) (59 + m))
    have P1 := (hQ3).set (p := ⟨w1.heap.size, 1, none⟩) (.inl (by dsimp only; omega)) (.slice (some ⟨wa.heap.size, 0, none⟩) (59 + m) (59 + m))
    have P2 := (p2.dr E3 (by omega)).set (p := ⟨w1.heap.size, 1, none⟩) (.inr (by dsimp only; omega)) (.slice (some ⟨wa.heap.size, 0, none⟩) (59 + m) (59 + m))
    have Q9 : RdI tData (w.heap.size + 1) w3.heap.size (w3.setCell ⟨w1.heap.size, 1, none⟩ (.slice (some ⟨wa.heap.size, 0, none⟩) (59 + m) (59 + m))) [.slice A0 (List.length x.1) c0, .slice (some ⟨wa.heap.size, 0, none⟩) (59 + m) (59 + m), .slice A2 (List.length x.2.2.1) c2, .int .i64 x.2.2.2.1, .int .i64 x.2.2.2.2] (x.1, List.replicate (59 + m) (0 : UInt8), x.2.2) := RdI.data (x := (x.1, List.replicate (59 + m) (0 : UInt8), x.2.2)) (P0.mono (by omega) (by have := P0.1; rw [World.size_setCell] at this; omega) (by rw [World.size_setCell]; exact Nat.le_refl _)) (P1.mono (by omega) (by have := P1.1; rw [World.size_setCell] at this; omega) (by rw [World.size_setCell]; exact Nat.le_refl _)) (P2.mono (by omega) (by have := P2.1; rw [World.size_setCell] at this; omega) (by rw [World.size_setCell]; exact Nat.le_refl _)) hi3 hi4
    clear P0 P1 P2 p0 p1 p2 hN3 hO3 hc3 E3 hO2 hN2 hc2
    subst hw3
    obtain ⟨o0, o1, o2, o3, o4, q0, q1, q2, q3, q4⟩ := blk5 hO9
    have zO9 := hO9.lt
    have zN9 := hN9.lt
    obtain ⟨m0, m1, m2, m3, m4, -⟩ := blk5 hN9
    go_wp2_with fail
    obtain ⟨w9, hw9⟩ : ∃ w9, w9 = (((((((wa.alloc (.cells (madeCells #[.int .u8 0] (59 + m)) 5)).setCell ⟨w1.heap.size, 1, none⟩ (.slice (some ⟨wa.heap.size, 0, none⟩) (59 + m) (59 + m))).setCell ⟨w.heap.size, 0, none⟩ (.slice A0 (List.length x.1) c0)).setCell ⟨w.heap.size, 1, none⟩ (.slice (some ⟨wa.heap.size, 0, none⟩) (59 + m) (59 + m))).setCell ⟨w.heap.size, 2, none⟩ (.slice A2 (List.length x.2.2.1) c2)).setCell ⟨w.heap.size, 3, none⟩ (.int .i64 x.2.2.2.1)).setCell ⟨w.heap.size, 4, none⟩ (.int .i64 x.2.2.2.2)) := ⟨_, rfl⟩
    obtain ⟨hP9, hK9, hs9, C10, F10⟩ := stored5 (v0 := .slice A0 (List.length x.1) c0) (v1 := .slice (some ⟨wa.heap.size, 0, none⟩) (59 + m) (59 + m)) (v2 := .slice A2 (List.length x.2.2.1) c2) (v3 := .int .i64 x.2.2.2.1) (v4 := .int .i64 x.2.2.2.2) hO9 (.inl hw9) (B := B) hB C9
    rw [← hw9]
    obtain ⟨o0, o1, o2, o3, o4, -⟩ := blk5 hP9
    have D10 := F10 w (Nat.le_refl _) D9
    refine bodyPost_ret (v := .agg #[.slice A0 (List.length x.1) c0, .slice (some ⟨wa.heap.size, 0, none⟩) (59 + m) (59 + m), .slice A2 (List.length x.2.2.1) c2, .int .i64 x.2.2.2.1, .int .i64 x.2.2.2.2]) (by simp [results, Tryz.results112, go_sem, o0, o1, o2, o3, o4]) rfl ?_
    exact ⟨D10, C10, _, (x.1, List.replicate (59 + m) (0 : UInt8), x.2.2), rfl, (RdI.keep (Q9) hs9 (fun q h1 h2 => hK9 q (by omega))).mono (by omega) (by have := Q9.1; omega) (Nat.le_refl _), ⟨hok.1, hlr, hok.2.2⟩⟩
  · have q0 : (k == 0) = false := by rw [beq_eq_false_iff_ne]; exact hk.1
    have q1 : (k == 1) = false := by rw [beq_eq_false_iff_ne]; exact hk.2.1
    have q2 : (k == 2) = false := by rw [beq_eq_false_iff_ne]; exact hk.2.2.1
    have q3 : (k == 3) = false := by rw [beq_eq_false_iff_ne]; exact hk.2.2.2.1
    have q4 : (k == 4) = false := by rw [beq_eq_false_iff_ne]; exact hk.2.2.2.2
    have hO9 := hO2
    have hN9 := hN2
    have C9 := hc2
    have D9 := D2.out
    have Q9 : RdI tData (w.heap.size + 1) w1.heap.size w2 [.slice A0 (List.length x.1) c0, .slice A1 (List.length x.2.1) c1, .slice A2 (List.length x.2.2.1) c2, .int .i64 x.2.2.2.1, .int .i64 x.2.2.2.2] x := RdI.data p0 p1 p2 hi3 hi4
    clear k0 k1 k2 k3 k4 j0 j1 j2 j3 j4 hO2 hN2
    obtain ⟨o0, o1, o2, o3, o4, q0, q1, q2, q3, q4⟩ := blk5 hO9
    have zO9 := hO9.lt
    have zN9 := hN9.lt
    obtain ⟨m0, m1, m2, m3, m4, -⟩ := blk5 hN9
    go_wp2_with fail
    obtain ⟨w9, hw9⟩ : ∃ w9, w9 = (((((w2.setCell ⟨w.heap.size, 0, none⟩ (.slice A0 (List.length x.1) c0)).setCell ⟨w.heap.size, 1, none⟩ (.slice A1 (List.length x.2.1) c1)).setCell ⟨w.heap.size, 2, none⟩ (.slice A2 (List.length x.2.2.1) c2)).setCell ⟨w.heap.size, 3, none⟩ (.int .i64 x.2.2.2.1)).setCell ⟨w.heap.size, 4, none⟩ (.int .i64 x.2.2.2.2)) := ⟨_, rfl⟩
    obtain ⟨hP9, hK9, hs9, C10, F10⟩ := stored5 (v0 := .slice A0 (List.length x.1) c0) (v1 := .slice A1 (List.length x.2.1) c1) (v2 := .slice A2 (List.length x.2.2.1) c2) (v3 := .int .i64 x.2.2.2.1) (v4 := .int .i64 x.2.2.2.2) hO9 (.inl hw9) (B := B) hB C9
    rw [← hw9]
    obtain ⟨o0, o1, o2, o3, o4, -⟩ := blk5 hP9
    have D10 := F10 w (Nat.le_refl _) D9
    refine bodyPost_ret (v := .agg #[.slice A0 (List.length x.1) c0, .slice A1 (List.length x.2.1) c1, .slice A2 (List.length x.2.2.1) c2, .int .i64 x.2.2.2.1, .int .i64 x.2.2.2.2]) (by simp [results, Tryz.results112, go_sem, o0, o1, o2, o3, o4]) rfl ?_
    exact ⟨D10, C10, _, x, rfl, (RdI.keep (Q9) hs9 (fun q h1 h2 => hK9 q (by omega))).mono (by omega) (by have := Q9.1; omega) (Nat.le_refl _), hok⟩
end Go.Proofs.YtldgbnlcnlfmeaaGreat

/- Copies of keys. -/
namespace Go.Proofs.YtldgbnlcnlfmeaaGreat
open Go.RowKit
set_option linter.unusedVariables false
set_option linter.unusedSimpArgs false

theorem ow_Key_mk {w : World} {A : Option Addr} {c : Nat} {x : Ty.D tKey} {f : List Nat} (h : (Ty.sl .str).ow w [.slice A (List.length x.1) c] x.1 f) (b : -9223372036854775808 ≤ x.2 ∧ x.2 ≤ 9223372036854775807) :
    Ty.ow w tKey [.slice A (List.length x.1) c, .int .i64 x.2] x f := ⟨[_], [_], f, [], rfl, (List.append_nil _).symm, h, ⟨rfl, b⟩, rfl⟩
set_option maxHeartbeats 2000000 in
theorem C_impl_copyKeys (w : World) (v : Value) (x : List (Ty.D tKey)) (h : (Ty.sl tKey).rd w [v] x) (s0 : Ty.bulk (.sl tKey) x ≤ 1000000000) :
    Calls Tryz.prog 98 #[v] w (RetDRow tKey w 68 x) := by
  obtain ⟨A, c, rfl, hc, hm, hn⟩ := Ty.rd_sl h
  have hxl := Ty.bulk_len s0
  go_enter Tryz.func98, Tryz.ntmps98
  go_wp2
  go_loopw [3, 9] (fun l i wr => ∃ k : Nat, k ≤ x.length ∧ i = .int .i64 k ∧ DRow tKey wr w.heap.size 68 l (x.take k) ∧ Below w.heap.size w wr) (fun _ i _ => x.length - (intOf i).toNat)
  case atStart => exact ⟨0, by omega, rfl, DRow.lit0 tKey w 68 (Nat.le_refl _), (by repeat' (first | (with_reducible exact Below.refl _ _) | (with_reducible assumption) | (with_reducible refine bel_set ?_ (by (try dsimp only); omega) _) | (with_reducible refine bel_alloc ?_ _) | (with_reducible refine bel_drewN ?_ _) | (with_reducible refine bel_drew ?_)))⟩
  case round =>
    obtain ⟨k, hk, rfl, hr, hb⟩ := hrel
    have HR := Lib.hid hr
    clear hr
    by_cases hlt : k < x.length
    · obtain ⟨b, o, ds, rfl, hl, hcell, hrd⟩ := Ty.rd_at (Ty.rd_below hb h) hlt
      obtain ⟨Aa0, ca0, rfl, sag0, sag1⟩ := rd_Key hrd
      have e0 : wr.cell? ⟨b, o + k * 2, none⟩ = some (.slice Aa0 (List.length x[k].1) ca0) := by simpa [Ty.sz] using hcell 0 (by decide)
      have e1 : wr.cell? ⟨b, o + k * 2 + 1, none⟩ = some (.int .i64 x[k].2) := by simpa [Ty.sz] using hcell 1 (by decide)
      clear hcell hl
      have hbk : Ty.bulk tKey x[k] ≤ 1000000000 := Ty.bulk_at s0 hlt
      have hbk2 : x[k].1.length ≤ 1000000000000 := by
        have h1 : Ty.bulk (.sl .str) x[k].1 + 0 ≤ 1000000000 := hbk
        have := Ty.bulk_len (e := .str) (x := x[k].1) (n := 1000000000) (by omega)
        omega
      have HP := Lib.hid (List.take_succ_eq_append_getElem hlt)
      have HL := Lib.hid (show (x.take k).length = k from by rw [List.length_take]; omega)
      have HS : Hid (∀ W, Below (wr.alloc (.cells #[.slice Aa0 (List.length x[k].1) ca0, .int .i64 x[k].2] 68)).heap.size (wr.alloc (.cells #[.slice Aa0 (List.length x[k].1) ca0, .int .i64 x[k].2] 68)) W →
          Below w.heap.size w W ∧ W.cell? ⟨wr.heap.size, 0, none⟩ = some (.slice Aa0 (List.length x[k].1) ca0) ∧ W.cell? ⟨wr.heap.size, 1, none⟩ = some (.int .i64 x[k].2)) := fun W hW =>
        ⟨bel_trans hb (bel_trans (by repeat' (first | (with_reducible exact Below.refl _ _) | (with_reducible assumption) | (with_reducible refine bel_set ?_ (by (try dsimp only); omega) _) | (with_reducible refine bel_alloc ?_ _) | (with_reducible refine bel_drewN ?_ _) | (with_reducible refine bel_drew ?_))) hW), (hW.cell (by simp only [World.size_alloc]; omega)).trans (cell_new wr _ _ 0 rfl), (hW.cell (by simp only [World.size_alloc]; omega)).trans (cell_new wr _ _ 1 rfl)⟩
      have hv0 : Below (wr.alloc (.cells #[.slice Aa0 (List.length x[k].1) ca0, .int .i64 x[k].2] 68)).heap.size (wr.alloc (.cells #[.slice Aa0 (List.length x[k].1) ca0, .int .i64 x[k].2] 68)) (wr.alloc (.cells #[.slice Aa0 (List.length x[k].1) ca0, .int .i64 x[k].2] 68)) := Below.refl _ _
      go_wp2_with fail
      set_option maxRecDepth 100000 in go_region_held3 (fun W => Below w.heap.size w W ∧ W.cell? ⟨wr.heap.size, 0, none⟩ = some (.slice Aa0 (List.length x[k].1) ca0) ∧ W.cell? ⟨wr.heap.size, 1, none⟩ = some (.int .i64 x[k].2)) (first | (exact hz) | (exact HS.out _ (by repeat' (first | (with_reducible exact Below.refl _ _) | (with_reducible assumption) | (with_reducible refine bel_set ?_ (by (try dsimp only); omega) _) | (with_reducible refine bel_alloc ?_ _) | (with_reducible refine bel_drewN ?_ _) | (with_reducible refine bel_drew ?_)))))
        (first
          | (go_at_call 55; (with_reducible refine (C_impl_copyName _ _ x[k].1 (Ty.rd_below (bel_trans (bel_alloc (Below.refl _ _) _) (by repeat' (first | (with_reducible exact Below.refl _ _) | (with_reducible assumption) | (with_reducible refine bel_set ?_ (by (try dsimp only); omega) _) | (with_reducible refine bel_alloc ?_ _) | (with_reducible refine bel_drewN ?_ _) | (with_reducible refine bel_drew ?_)))) sag0) hbk2).mono ?_); rintro e w1 ⟨cs1, fp1, rfl, how1, hfr1, hb1⟩; obtain ⟨A1, c1, rfl⟩ := Ty.ow_slv how1; have hv1 : Below (wr.alloc (.cells #[.slice Aa0 (List.length x[k].1) ca0, .int .i64 x[k].2] 68)).heap.size (wr.alloc (.cells #[.slice Aa0 (List.length x[k].1) ca0, .int .i64 x[k].2] 68)) w1 := bel_trans (by repeat' (first | (with_reducible exact Below.refl _ _) | (with_reducible assumption) | (with_reducible refine bel_set ?_ (by (try dsimp only); omega) _) | (with_reducible refine bel_alloc ?_ _) | (with_reducible refine bel_drewN ?_ _) | (with_reducible refine bel_drew ?_))) hb1)
          | ((refine step_append_drow (by rfl) _ _ 24 (by rfl) wr w.heap.size 68 info_Key rfl Tryz.underlying24 _ _ (x.take k) [x[k]] (by rfl) (by rfl) HR.out (bel_trans (bel_alloc (Below.refl _ _) _) (by repeat' (first | (with_reducible exact Below.refl _ _) | (with_reducible assumption) | (with_reducible refine bel_set ?_ (by (try dsimp only); omega) _) | (with_reducible refine bel_alloc ?_ _) | (with_reducible refine bel_drewN ?_ _) | (with_reducible refine bel_drew ?_)))) (Src.lit 68 (ow_Key_mk how1 sag1) (hfr1.mono (by simp only [size_drewN, World.size_drew, World.size_alloc]; omega) (Nat.le_refl _))) (by rw [HL.out, List.length_singleton]; omega) (by rw [HL.out, List.length_singleton]; unfold maxLen; omega) hb.size ?_); intro v' w' hr' hg'; have hq := HS.out _ (bel_alloc hv1 (.cells #[.slice A1 (List.length x[k].1) c1, .int .i64 x[k].2] 68)); have hne : some wr.heap.size ≠ u3.ownBlock := fun e => Nat.lt_irrefl _ (HR.out.block _ e.symm).2; have hz : Below w.heap.size w w' ∧ w'.cell? ⟨wr.heap.size, 0, none⟩ = some (.slice Aa0 (List.length x[k].1) ca0) ∧ w'.cell? ⟨wr.heap.size, 1, none⟩ = some (.int .i64 x[k].2) := ⟨bel_grown hq.1 hq.1.size hg' (fun g hg => (HR.out.block g hg).1), hg'.cell hq.2.1 hne, hg'.cell hq.2.2 hne⟩))
      have HR' := Lib.hid hr'
      clear hr'
      go_wp2
      go_roundw
      case rel => exact ⟨k + 1, by omega, by go_num, by rw [HP.out]; exact HR'.out, hz.1⟩
      case measure => simp [intOf]; omega
    · have HE : Hid (x.take k = x) := List.take_of_length_le (by omega)
      go_wp2
      go_ret
      exact ⟨_, rfl, by rw [HE.out] at HR; exact HR.out, hb⟩
set_option maxHeartbeats 2000000 in
theorem C_spec_l9Copy (w : World) (v : Value) (x : List (Ty.D tKey)) (h : (Ty.sl tKey).rd w [v] x) (s0 : Ty.bulk (.sl tKey) x ≤ 1000000000) :
    Calls Tryz.prog 99 #[v] w (RetDRow tKey w 68 x) := by
  obtain ⟨A, c, rfl, hc, hm, hn⟩ := Ty.rd_sl h
  have hxl := Ty.bulk_len s0
  go_enter Tryz.func99, Tryz.ntmps99
  go_wp2
  go_loopw [3, 4] (fun l i wr => ∃ k : Nat, k ≤ x.length ∧ i = .int .i64 k ∧ DRow tKey wr w.heap.size 68 l (x.take k) ∧ Below w.heap.size w wr) (fun _ i _ => x.length - (intOf i).toNat)
  case atStart => exact ⟨0, by omega, rfl, DRow.lit0 tKey w 68 (Nat.le_refl _), (by repeat' (first | (with_reducible exact Below.refl _ _) | (with_reducible assumption) | (with_reducible refine bel_set ?_ (by (try dsimp only); omega) _) | (with_reducible refine bel_alloc ?_ _) | (with_reducible refine bel_drewN ?_ _) | (with_reducible refine bel_drew ?_)))⟩
  case round =>
    obtain ⟨k, hk, rfl, hr, hb⟩ := hrel
    have HR := Lib.hid hr
    clear hr
    by_cases hlt : k < x.length
    · obtain ⟨b, o, ds, rfl, hl, hcell, hrd⟩ := Ty.rd_at (Ty.rd_below hb h) hlt
      obtain ⟨Aa0, ca0, rfl, sag0, sag1⟩ := rd_Key hrd
      have e0 : wr.cell? ⟨b, o + k * 2, none⟩ = some (.slice Aa0 (List.length x[k].1) ca0) := by simpa [Ty.sz] using hcell 0 (by decide)
      have e1 : wr.cell? ⟨b, o + k * 2 + 1, none⟩ = some (.int .i64 x[k].2) := by simpa [Ty.sz] using hcell 1 (by decide)
      clear hcell hl
      have hbk : Ty.bulk tKey x[k] ≤ 1000000000 := Ty.bulk_at s0 hlt
      have hbk2 : x[k].1.length ≤ 1000000000000 := by
        have h1 : Ty.bulk (.sl .str) x[k].1 + 0 ≤ 1000000000 := hbk
        have := Ty.bulk_len (e := .str) (x := x[k].1) (n := 1000000000) (by omega)
        omega
      have HP := Lib.hid (List.take_succ_eq_append_getElem hlt)
      have HL := Lib.hid (show (x.take k).length = k from by rw [List.length_take]; omega)
      go_wp2_with fail
      refine (C_spec_l4Copy _ _ x[k].1 sag0 hbk2).mono ?_
      rintro e w1 ⟨cs1, fp1, rfl, how1, hfr1, hb1⟩
      obtain ⟨A1, c1, rfl⟩ := Ty.ow_slv how1
      have hlb0 : b < w.heap.size := by
        obtain ⟨b', o', ds', he', hl', hc', _⟩ := Ty.rd_at h hlt
        injection he' with he'
        injection he' with he1 he2
        have := hc' 0 (by decide)
        rw [List.getElem?_eq_getElem (by rw [hl']; decide)] at this
        have := World.block_lt_of_cell? w _ this
        rw [he1]; exact this
      have hlb1 : b < wr.heap.size := Nat.lt_of_lt_of_le hlb0 hb.size
      have hlb : b < w1.heap.size := Nat.lt_of_lt_of_le hlb1 hb1.size
      have q1 : w1.cell? ⟨b, o + k * 2 + 1, none⟩ = some (.int .i64 x[k].2) := (hb1.cell (p := ⟨b, o + k * 2 + 1, none⟩) hlb1).trans e1
      have HS : Hid (∀ W, Below (w1.alloc (.cells #[.slice A1 (List.length x[k].1) c1] 32)).heap.size (w1.alloc (.cells #[.slice A1 (List.length x[k].1) c1] 32)) W →
          Below w.heap.size w W ∧ W.cell? ⟨w1.heap.size, 0, none⟩ = some (.slice A1 (List.length x[k].1) c1) ∧ W.cell? ⟨b, o + k * 2 + 1, none⟩ = some (.int .i64 x[k].2)) := fun W hW =>
        ⟨bel_trans hb (bel_trans hb1 (bel_trans (by repeat' (first | (with_reducible exact Below.refl _ _) | (with_reducible assumption) | (with_reducible refine bel_set ?_ (by (try dsimp only); omega) _) | (with_reducible refine bel_alloc ?_ _) | (with_reducible refine bel_drewN ?_ _) | (with_reducible refine bel_drew ?_))) hW)), (hW.cell (by simp only [World.size_alloc]; omega)).trans (cell_new w1 _ _ 0 rfl), (hW.cell (by simp only [World.size_alloc]; omega)).trans ((World.cell?_alloc_lt _ _ _ hlb).trans q1)⟩
      have hv0 : Below (w1.alloc (.cells #[.slice A1 (List.length x[k].1) c1] 32)).heap.size (w1.alloc (.cells #[.slice A1 (List.length x[k].1) c1] 32)) (w1.alloc (.cells #[.slice A1 (List.length x[k].1) c1] 32)) := Below.refl _ _
      have sag1' := sag1
      go_wp2_with fail
      set_option maxRecDepth 100000 in go_region_held3 (fun W => Below w.heap.size w W ∧ W.cell? ⟨w1.heap.size, 0, none⟩ = some (.slice A1 (List.length x[k].1) c1) ∧ W.cell? ⟨b, o + k * 2 + 1, none⟩ = some (.int .i64 x[k].2)) (first | (exact hz) | (exact HS.out _ (by repeat' (first | (with_reducible exact Below.refl _ _) | (with_reducible assumption) | (with_reducible refine bel_set ?_ (by (try dsimp only); omega) _) | (with_reducible refine bel_alloc ?_ _) | (with_reducible refine bel_drewN ?_ _) | (with_reducible refine bel_drew ?_)))))
        (first
          | ((refine step_append_drow (by rfl) _ _ 24 (by rfl) wr w.heap.size 68 info_Key rfl Tryz.underlying24 _ _ (x.take k) [x[k]] (by rfl) (by rfl) HR.out (bel_trans hb1 (bel_trans (bel_alloc (Below.refl _ _) _) (by repeat' (first | (with_reducible exact Below.refl _ _) | (with_reducible assumption) | (with_reducible refine bel_set ?_ (by (try dsimp only); omega) _) | (with_reducible refine bel_alloc ?_ _) | (with_reducible refine bel_drewN ?_ _) | (with_reducible refine bel_drew ?_))))) (Src.drew (Src.litE 68 (ow_Key_mk (Ty.ow_bel (by repeat' (first | (with_reducible exact Below.refl _ _) | (with_reducible assumption) | (with_reducible refine bel_set ?_ (by (try dsimp only); omega) _) | (with_reducible refine bel_alloc ?_ _) | (with_reducible refine bel_drewN ?_ _) | (with_reducible refine bel_drew ?_))) how1) sag1) (hfr1.mono (Nat.le_refl _) (by simp only [size_drewN, World.size_drew, World.size_alloc]; omega)) (by simp only [World.size_alloc]))) (by rw [HL.out, List.length_singleton]; omega) (by rw [HL.out, List.length_singleton]; unfold maxLen; omega) hb.size ?_); intro v' w' hr' hg'; have hq := HS.out _ (bel_drew (bel_alloc hv0 (.cells #[.slice A1 (List.length x[k].1) c1, .int .i64 x[k].2] 68))); have hne : some w1.heap.size ≠ u3.ownBlock := fun e => (by have := (HR.out.block _ e.symm).2; have := hb1.size; omega); have hne2 : some b ≠ u3.ownBlock := fun e => (by have := (HR.out.block _ e.symm).1; omega); have hz : Below w.heap.size w w' ∧ w'.cell? ⟨w1.heap.size, 0, none⟩ = some (.slice A1 (List.length x[k].1) c1) ∧ w'.cell? ⟨b, o + k * 2 + 1, none⟩ = some (.int .i64 x[k].2) := ⟨bel_grown hq.1 hq.1.size hg' (fun g hg => (HR.out.block g hg).1), hg'.cell hq.2.1 hne, hg'.cell hq.2.2 hne2⟩))
      have HR' := Lib.hid hr'
      clear hr'
      go_wp2
      go_roundw
      case rel => exact ⟨k + 1, by omega, by go_num, by rw [HP.out]; exact HR'.out, hz.1⟩
      case measure => simp [intOf]; omega
    · have HE : Hid (x.take k = x) := List.take_of_length_le (by omega)
      go_wp2
      go_ret
      exact ⟨_, rfl, by rw [HE.out] at HR; exact HR.out, hb⟩
end Go.Proofs.YtldgbnlcnlfmeaaGreat
