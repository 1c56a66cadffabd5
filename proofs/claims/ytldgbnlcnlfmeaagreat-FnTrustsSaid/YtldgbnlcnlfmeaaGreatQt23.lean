/- Texts of this claim, merged by a program: Tha Cpk Vky Adk. -/
import Derived.Test.YtldgbnlcnlfmeaaGreatQtP
import Derived.Test.YtldgbnlcnlfmeaaGreatQt22
import Derived.Deep.OwnRows
import Derived.Test.YtldgbnlcnlfmeaaGreatQt3
import Derived.Test.YtldgbnlcnlfmeaaGreatQt6
import Derived.Test.YtldgbnlcnlfmeaaGreatQt5
import Derived.Deep.QuietTactic
import Derived.BigQuiet
import Derived.Test.YtldgbnlcnlfmeaaGreatQt1
import Derived.Test.YtldgbnlcnlfmeaaGreatQt2
namespace Go.Proofs.YtldgbnlcnlfmeaaGreat
open Go.RowKit
set_option linter.unusedVariables false
set_option linter.unusedSimpArgs false
theorem mem_word {l : List Int} {s : Int} (h : s ∈ l) (hl : l.all (fun s => decide (-1 ≤ s ∧ s ≤ 2147483648)) = true) : -1 ≤ s ∧ s ≤ 2147483648 := by
 have := List.all_eq_true.1 hl s h; simpa only [decide_eq_true_eq] using this
theorem mul_word {x y : Int} (h0 : 0 ≤ x) (h1 : x ≤ 999999) (h2 : 0 ≤ y) (h3 : y ≤ 1999) : 0 ≤ x * y ∧ x * y ≤ 2147483648 := by
 refine ⟨Int.mul_nonneg h0 h2, ?_⟩
 have := Int.mul_le_mul h1 h3 h2 b_36
 omega
set_option maxRecDepth 100000 in
set_option maxHeartbeats 2000000 in
theorem C_spec_l3Word (w : World) (B : Nat) (hc : CurT w B) : Calls Tryz.prog 114 #[pB B] w (RetDT B w (DrI (-1) 2147483648)) := by
 have hB := hc.lt
 go_enter Tryz.func114, Tryz.ntmps114
 go_wp2_with fail
 refine Calls.mono (C_spec_l1Once _ B 10 b_14 b_36 b_36) ?_
 rintro e w1 ⟨hd1, hc1, yes, rfl⟩
 have E1 : Dr B w w1 := b_5
 have z1 := E1.size
 cases yes with
 | true =>
  go_wp2_with fail
  refine Calls.mono (C_spec_l1Int _ B _ [-1, 2147483647, 2147483648] b_14 b_12 b_36 b_36) ?_
  rintro e w2 ⟨hd2, hc2, s, hs, rfl⟩
  have hw := mem_word hs b_36
  have E2 : Dr B w w2 := b_5
  go_wp2
  go_ret
  exact ⟨E2, hc2, _, rfl, hw.1, hw.2⟩
 | false =>
  go_wp2_with fail
  refine Calls.mono (C_spec_l1Once _ B 4 b_14 b_36 b_36) ?_
  rintro e w2 ⟨hd2, hc2, yes, rfl⟩
  have E2 : Dr B w w2 := b_5
  have z2 := E2.size
  cases yes with
  | true =>
   go_wp2_with fail
   refine Calls.mono (C_spec_l1Int _ B _ [0, 1, 2147483646] b_14 b_12 b_36 b_36) ?_
   rintro e w3 ⟨hd3, hc3, s, hs, rfl⟩
   have hw := mem_word hs b_36
   have E3 : Dr B w w3 := b_5
   go_wp2
   go_ret
   exact ⟨E3, hc3, _, rfl, hw.1, hw.2⟩
  | false =>
   go_wp2_with fail
   refine Calls.mono (C_spec_l1Below _ B 1000000 b_14 b_36 b_36) ?_
   rintro e w3 ⟨hd3, hc3, x, rfl, hx0, hx1⟩
   have E3 : Dr B w w3 := b_5
   go_wp2_with fail
   refine Calls.mono (C_spec_l1Below _ B 2000 b_14 b_36 b_36) ?_
   rintro e w4 ⟨hd4, hc4, y, rfl, hy0, hy1⟩
   have E4 : Dr B w w4 := b_5
   have hm := mul_word hx0 (show x ≤ 999999 by omega) hy0 (show y ≤ 1999 by omega)
   have hv : IntKind.i64.wrap (x * y) = x * y := IntWalk.i64_in _ b_37
   go_wp2
   go_ret
   exact ⟨E4, hc4, _, rfl, by omega, by omega⟩
theorem rdI_made (w : World) (te : TypeId) (n : Nat) (hn : n ≤ 1000) : RdI (.sl .byte) w.heap.size (w.heap.size + 1) (w.alloc (.cells (madeCells #[.int .u8 0] n) te)) [.slice (some ⟨w.heap.size, 0, none⟩) n n] (List.replicate n (0 : UInt8)) := by
 have he : madeCells #[.int .u8 0] n = ((List.replicate n (0 : UInt8)).map flatB.enc).toArray := by
  rw [← Array.toList_inj, toList_madeCells_one, List.map_replicate]; rfl
 have hb : Blk (w.alloc (.cells (madeCells #[.int .u8 0] n) te)) w.heap.size te ((List.replicate n (0 : UInt8)).map flatB.enc).toArray := by rw [he]; exact Blk.new _ _ _
 have hr : Row flatB (w.alloc (.cells (madeCells #[.int .u8 0] n) te)) w.heap.size te (.slice (some ⟨w.heap.size, 0, none⟩) n n) (List.replicate n (0 : UInt8)) := by
  refine ⟨?_, fun _ _ => trivial⟩
  rw [List.length_replicate]
  exact ownsRow_blk hb (Nat.le_refl _) b_38 (by unfold maxLen; omega)
 have h := (GRow.ofRow rfl hr).rdI
 rw [World.size_alloc] at h
 exact h
set_option maxRecDepth 100000 in
set_option maxHeartbeats 4000000 in
theorem C_spec_l8Any (w : World) (B : Nat) (hc : CurT w B) :
  Calls Tryz.prog 112 #[pB B] w (RetDT B w (DrR tData w okThing)) := by
 have hB := hc.lt
 go_enter Tryz.func112, Tryz.ntmps112
 go_wp2_with fail
 refine Calls.mono (C_spec_l8Draw _ B b_14) ?_
 rintro e w1 ⟨hd1, hc1, cs, x, rfl, hQ, hok⟩
 obtain ⟨A0, c0, A1, c1, A2, c2, rfl, -, -, -, hi3, hi4⟩ := rd_Data hQ.rd
 have z1 := hd1.size
 simp only [World.size_alloc] at z1
 have D1 : Dr B w w1 := b_5
 have hO1 : Blk w1 w.heap.size 34 #[.slice none 0 0, .slice none 0 0, .slice none 0 0, .int .i64 0, .int .i64 0] := Dr.blk hd1 (Blk.new w _ _) b_37
 rw [World.size_alloc] at hQ
 clear hd1
 go_wp2_with fail
 refine Calls.mono (C_spec_l1Below _ B 12 b_14 b_36 b_36) ?_
 rintro e w2 ⟨hd2, hc2, k, rfl, hk0, hk1⟩
 have z2 := hd2.size
 simp only [World.size_alloc] at z2
 have E2 : Dr B w1 w2 := b_5
 have D2 := Lib.hid (D1.trans E2)
 have hO2 := Dr.blk E2 hO1 b_37
 have hN2 : Blk w2 w1.heap.size 34 #[.slice A0 (List.length x.1) c0, .slice A1 (List.length x.2.1) c1, .slice A2 (List.length x.2.2.1) c2, .int .i64 x.2.2.2.1, .int .i64 x.2.2.2.2] := Dr.blk hd2 (Blk.new w1 _ _) b_37
 obtain ⟨p0, p1, p2⟩ := RdI.dataP (hQ.dr E2 b_37)
 have hzN := hN2.lt
 clear hd2 hO1 E2 D1 hc1 hQ
 obtain ⟨k0, k1, k2, k3, k4, j0, j1, j2, j3, j4⟩ := blk5 hN2
 have hcase : k = 0 ∨ k = 1 ∨ k = 2 ∨ k = 3 ∨ k = 4 ∨ (k ≠ 0 ∧ k ≠ 1 ∧ k ≠ 2 ∧ k ≠ 3 ∧ k ≠ 4) := by omega
 rcases hcase with rfl | rfl | rfl | rfl | rfl | hk
 ·go_wp2_with fail
  refine Calls.mono (C_spec_l4Any _ B b_14) ?_
  rintro e w3 ⟨hd3, hc3, cs3, n3, rfl, hQ3, hok3⟩
  obtain ⟨A3, c3, rfl⟩ := Ty.rd_slv hQ3.rd
  have z3 := hd3.size
  (try simp only [szz] at z3)
  have E3 : Dr B w2 w3 := b_5
  (try simp only [szz] at hQ3)
  clear hd3
  have hO3 := Dr.blk E3 hO2 b_37
  have hN3 := Dr.blk E3 hN2 b_37
  clear k0 k1 k2 k3 k4 j0 j1 j2 j3 j4
  obtain ⟨k0, k1, k2, k3, k4, j0, j1, j2, j3, j4⟩ := blk5 hN3
  have hzN3 := hN3.lt
  have hO9 := hO3.far (p := ⟨w1.heap.size, 0, none⟩) b_34 (.slice A3 (List.length n3) c3)
  have hN9 := hN3.set_ 0 (.slice A3 (List.length n3) c3)
  have C9 := Cur.far hc3 (p := ⟨w1.heap.size, 0, none⟩) b_34 (.slice A3 (List.length n3) c3)
  have D9 := Dr.set (D2.out.trans E3) (p := ⟨w1.heap.size, 0, none⟩) (.inr b_34) (.slice A3 (List.length n3) c3)
  have P0 := (hQ3).set (p := ⟨w1.heap.size, 0, none⟩) (.inl b_34) (.slice A3 (List.length n3) c3)
  have P1 := (p1.dr E3 b_37).set (p := ⟨w1.heap.size, 0, none⟩) (.inr b_34) (.slice A3 (List.length n3) c3)
  have P2 := (p2.dr E3 b_37).set (p := ⟨w1.heap.size, 0, none⟩) (.inr b_34) (.slice A3 (List.length n3) c3)
  have Q9 : RdI tData (w.heap.size + 1) w3.heap.size (w3.setCell ⟨w1.heap.size, 0, none⟩ (.slice A3 (List.length n3) c3)) [.slice A3 (List.length n3) c3, .slice A1 (List.length x.2.1) c1, .slice A2 (List.length x.2.2.1) c2, .int .i64 x.2.2.2.1, .int .i64 x.2.2.2.2] (n3, x.2) := RdI.data (x := (n3, x.2)) (P0.mono b_37 (by have := P0.1; rw [World.size_setCell] at this; omega) b_26) (P1.mono b_37 (by have := P1.1; rw [World.size_setCell] at this; omega) b_26) (P2.mono b_37 (by have := P2.1; rw [World.size_setCell] at this; omega) b_26) hi3 hi4
  clear P0 P1 P2 p0 p1 p2 hN3 hO3 hc3 E3 hO2 hN2 hc2
  obtain ⟨o0, o1, o2, o3, o4, q0, q1, q2, q3, q4⟩ := blk5 hO9
  have zO9 := hO9.lt
  have zN9 := hN9.lt
  obtain ⟨m0, m1, m2, m3, m4, -⟩ := blk5 hN9
  go_wp2_with fail
  obtain ⟨w9, hw9⟩ : ∃ w9, w9 = ((((((w3.setCell ⟨w1.heap.size, 0, none⟩ (.slice A3 (List.length n3) c3)).setCell ⟨w.heap.size, 0, none⟩ (.slice A3 (List.length n3) c3)).setCell ⟨w.heap.size, 1, none⟩ (.slice A1 (List.length x.2.1) c1)).setCell ⟨w.heap.size, 2, none⟩ (.slice A2 (List.length x.2.2.1) c2)).setCell ⟨w.heap.size, 3, none⟩ (.int .i64 x.2.2.2.1)).setCell ⟨w.heap.size, 4, none⟩ (.int .i64 x.2.2.2.2)) := ⟨_, rfl⟩
  obtain ⟨hP9, hK9, hs9, C10, F10⟩ := stored5 (v0 := .slice A3 (List.length n3) c3) (v1 := .slice A1 (List.length x.2.1) c1) (v2 := .slice A2 (List.length x.2.2.1) c2) (v3 := .int .i64 x.2.2.2.1) (v4 := .int .i64 x.2.2.2.2) hO9 (.inl hw9) (B := B) hB C9
  rw [← hw9]
  obtain ⟨o0, o1, o2, o3, o4, -⟩ := blk5 hP9
  have D10 := F10 w (Nat.le_refl _) D9
  refine bodyPost_ret (v := .agg #[.slice A3 (List.length n3) c3, .slice A1 (List.length x.2.1) c1, .slice A2 (List.length x.2.2.1) c2, .int .i64 x.2.2.2.1, .int .i64 x.2.2.2.2]) (by simp [results, Tryz.results112, go_sem, o0, o1, o2, o3, o4]) rfl ?_
  exact ⟨D10, C10, _, (n3, x.2), rfl, (RdI.keep (Q9) hs9 (fun q h1 h2 => hK9 q b_37)).mono b_37 (by have := Q9.1; omega) (Nat.le_refl _), ⟨hok3, hok.2⟩⟩
 ·go_wp2_with fail
  refine Calls.mono (C_spec_l4Any _ B b_14) ?_
  rintro e w3 ⟨hd3, hc3, cs3, n3, rfl, hQ3, hok3⟩
  obtain ⟨A3, c3, rfl⟩ := Ty.rd_slv hQ3.rd
  have z3 := hd3.size
  (try simp only [szz] at z3)
  have E3 : Dr B w2 w3 := b_5
  (try simp only [szz] at hQ3)
  clear hd3
  have hO3 := Dr.blk E3 hO2 b_37
  have hN3 := Dr.blk E3 hN2 b_37
  clear k0 k1 k2 k3 k4 j0 j1 j2 j3 j4
  obtain ⟨k0, k1, k2, k3, k4, j0, j1, j2, j3, j4⟩ := blk5 hN3
  have hzN3 := hN3.lt
  have hO9 := hO3.far (p := ⟨w1.heap.size, 2, none⟩) b_34 (.slice A3 (List.length n3) c3)
  have hN9 := hN3.set_ 2 (.slice A3 (List.length n3) c3)
  have C9 := Cur.far hc3 (p := ⟨w1.heap.size, 2, none⟩) b_34 (.slice A3 (List.length n3) c3)
  have D9 := Dr.set (D2.out.trans E3) (p := ⟨w1.heap.size, 2, none⟩) (.inr b_34) (.slice A3 (List.length n3) c3)
  have P0 := (p0.dr E3 b_37).set (p := ⟨w1.heap.size, 2, none⟩) (.inr b_34) (.slice A3 (List.length n3) c3)
  have P1 := (p1.dr E3 b_37).set (p := ⟨w1.heap.size, 2, none⟩) (.inr b_34) (.slice A3 (List.length n3) c3)
  have P2 := (hQ3).set (p := ⟨w1.heap.size, 2, none⟩) (.inl b_34) (.slice A3 (List.length n3) c3)
  have Q9 : RdI tData (w.heap.size + 1) w3.heap.size (w3.setCell ⟨w1.heap.size, 2, none⟩ (.slice A3 (List.length n3) c3)) [.slice A0 (List.length x.1) c0, .slice A1 (List.length x.2.1) c1, .slice A3 (List.length n3) c3, .int .i64 x.2.2.2.1, .int .i64 x.2.2.2.2] (x.1, x.2.1, n3, x.2.2.2) := RdI.data (x := (x.1, x.2.1, n3, x.2.2.2)) (P0.mono b_37 (by have := P0.1; rw [World.size_setCell] at this; omega) b_26) (P1.mono b_37 (by have := P1.1; rw [World.size_setCell] at this; omega) b_26) (P2.mono b_37 (by have := P2.1; rw [World.size_setCell] at this; omega) b_26) hi3 hi4
  clear P0 P1 P2 p0 p1 p2 hN3 hO3 hc3 E3 hO2 hN2 hc2
  obtain ⟨o0, o1, o2, o3, o4, q0, q1, q2, q3, q4⟩ := blk5 hO9
  have zO9 := hO9.lt
  have zN9 := hN9.lt
  obtain ⟨m0, m1, m2, m3, m4, -⟩ := blk5 hN9
  go_wp2_with fail
  obtain ⟨w9, hw9⟩ : ∃ w9, w9 = ((((((w3.setCell ⟨w1.heap.size, 2, none⟩ (.slice A3 (List.length n3) c3)).setCell ⟨w.heap.size, 0, none⟩ (.slice A0 (List.length x.1) c0)).setCell ⟨w.heap.size, 1, none⟩ (.slice A1 (List.length x.2.1) c1)).setCell ⟨w.heap.size, 2, none⟩ (.slice A3 (List.length n3) c3)).setCell ⟨w.heap.size, 3, none⟩ (.int .i64 x.2.2.2.1)).setCell ⟨w.heap.size, 4, none⟩ (.int .i64 x.2.2.2.2)) := ⟨_, rfl⟩
  obtain ⟨hP9, hK9, hs9, C10, F10⟩ := stored5 (v0 := .slice A0 (List.length x.1) c0) (v1 := .slice A1 (List.length x.2.1) c1) (v2 := .slice A3 (List.length n3) c3) (v3 := .int .i64 x.2.2.2.1) (v4 := .int .i64 x.2.2.2.2) hO9 (.inl hw9) (B := B) hB C9
  rw [← hw9]
  obtain ⟨o0, o1, o2, o3, o4, -⟩ := blk5 hP9
  have D10 := F10 w (Nat.le_refl _) D9
  refine bodyPost_ret (v := .agg #[.slice A0 (List.length x.1) c0, .slice A1 (List.length x.2.1) c1, .slice A3 (List.length n3) c3, .int .i64 x.2.2.2.1, .int .i64 x.2.2.2.2]) (by simp [results, Tryz.results112, go_sem, o0, o1, o2, o3, o4]) rfl ?_
  exact ⟨D10, C10, _, (x.1, x.2.1, n3, x.2.2.2), rfl, (RdI.keep (Q9) hs9 (fun q h1 h2 => hK9 q b_37)).mono b_37 (by have := Q9.1; omega) (Nat.le_refl _), ⟨hok.1, hok.2.1, hok3⟩⟩
 ·go_wp2_with fail
  refine Calls.mono (C_spec_l1Int _ B _ [-1, 100000, 100001] b_14 b_12 b_36 b_36) ?_
  rintro e w3 ⟨hd3, hc3, s, hs, rfl⟩
  have z3 := hd3.size
  (try simp only [szz] at z3)
  have E3 : Dr B w2 w3 := b_5
  have hnew : -9223372036854775808 ≤ s ∧ s ≤ 9223372036854775807 := by have := mem_word hs b_36; omega
  clear hd3
  have hO3 := Dr.blk E3 hO2 b_37
  have hN3 := Dr.blk E3 hN2 b_37
  clear k0 k1 k2 k3 k4 j0 j1 j2 j3 j4
  obtain ⟨k0, k1, k2, k3, k4, j0, j1, j2, j3, j4⟩ := blk5 hN3
  have hzN3 := hN3.lt
  have hO9 := hO3.far (p := ⟨w1.heap.size, 3, none⟩) b_34 (.int .i64 s)
  have hN9 := hN3.set_ 3 (.int .i64 s)
  have C9 := Cur.far hc3 (p := ⟨w1.heap.size, 3, none⟩) b_34 (.int .i64 s)
  have D9 := Dr.set (D2.out.trans E3) (p := ⟨w1.heap.size, 3, none⟩) (.inr b_34) (.int .i64 s)
  have P0 := (p0.dr E3 b_37).set (p := ⟨w1.heap.size, 3, none⟩) (.inr b_34) (.int .i64 s)
  have P1 := (p1.dr E3 b_37).set (p := ⟨w1.heap.size, 3, none⟩) (.inr b_34) (.int .i64 s)
  have P2 := (p2.dr E3 b_37).set (p := ⟨w1.heap.size, 3, none⟩) (.inr b_34) (.int .i64 s)
  have Q9 : RdI tData (w.heap.size + 1) w3.heap.size (w3.setCell ⟨w1.heap.size, 3, none⟩ (.int .i64 s)) [.slice A0 (List.length x.1) c0, .slice A1 (List.length x.2.1) c1, .slice A2 (List.length x.2.2.1) c2, .int .i64 s, .int .i64 x.2.2.2.2] (x.1, x.2.1, x.2.2.1, s, x.2.2.2.2) := RdI.data (x := (x.1, x.2.1, x.2.2.1, s, x.2.2.2.2)) (P0.mono b_37 (by have := P0.1; rw [World.size_setCell] at this; omega) b_26) (P1.mono b_37 (by have := P1.1; rw [World.size_setCell] at this; omega) b_26) (P2.mono b_37 (by have := P2.1; rw [World.size_setCell] at this; omega) b_26) hnew hi4
  clear P0 P1 P2 p0 p1 p2 hN3 hO3 hc3 E3 hO2 hN2 hc2
  obtain ⟨o0, o1, o2, o3, o4, q0, q1, q2, q3, q4⟩ := blk5 hO9
  have zO9 := hO9.lt
  have zN9 := hN9.lt
  obtain ⟨m0, m1, m2, m3, m4, -⟩ := blk5 hN9
  go_wp2_with fail
  obtain ⟨w9, hw9⟩ : ∃ w9, w9 = ((((((w3.setCell ⟨w1.heap.size, 3, none⟩ (.int .i64 s)).setCell ⟨w.heap.size, 0, none⟩ (.slice A0 (List.length x.1) c0)).setCell ⟨w.heap.size, 1, none⟩ (.slice A1 (List.length x.2.1) c1)).setCell ⟨w.heap.size, 2, none⟩ (.slice A2 (List.length x.2.2.1) c2)).setCell ⟨w.heap.size, 3, none⟩ (.int .i64 s)).setCell ⟨w.heap.size, 4, none⟩ (.int .i64 x.2.2.2.2)) := ⟨_, rfl⟩
  obtain ⟨hP9, hK9, hs9, C10, F10⟩ := stored5 (v0 := .slice A0 (List.length x.1) c0) (v1 := .slice A1 (List.length x.2.1) c1) (v2 := .slice A2 (List.length x.2.2.1) c2) (v3 := .int .i64 s) (v4 := .int .i64 x.2.2.2.2) hO9 (.inl hw9) (B := B) hB C9
  rw [← hw9]
  obtain ⟨o0, o1, o2, o3, o4, -⟩ := blk5 hP9
  have D10 := F10 w (Nat.le_refl _) D9
  refine bodyPost_ret (v := .agg #[.slice A0 (List.length x.1) c0, .slice A1 (List.length x.2.1) c1, .slice A2 (List.length x.2.2.1) c2, .int .i64 s, .int .i64 x.2.2.2.2]) (by simp [results, Tryz.results112, go_sem, o0, o1, o2, o3, o4]) rfl ?_
  exact ⟨D10, C10, _, (x.1, x.2.1, x.2.2.1, s, x.2.2.2.2), rfl, (RdI.keep (Q9) hs9 (fun q h1 h2 => hK9 q b_37)).mono b_37 (by have := Q9.1; omega) (Nat.le_refl _), hok⟩
 ·go_wp2_with fail
  refine Calls.mono (C_spec_l3Word _ B b_14) ?_
  rintro e w3 ⟨hd3, hc3, s, rfl, hs0, hs1⟩
  have z3 := hd3.size
  (try simp only [szz] at z3)
  have E3 : Dr B w2 w3 := b_5
  have hnew : -9223372036854775808 ≤ s ∧ s ≤ 9223372036854775807 := by omega
  clear hd3
  have hO3 := Dr.blk E3 hO2 b_37
  have hN3 := Dr.blk E3 hN2 b_37
  clear k0 k1 k2 k3 k4 j0 j1 j2 j3 j4
  obtain ⟨k0, k1, k2, k3, k4, j0, j1, j2, j3, j4⟩ := blk5 hN3
  have hzN3 := hN3.lt
  have hO9 := hO3.far (p := ⟨w1.heap.size, 4, none⟩) b_34 (.int .i64 s)
  have hN9 := hN3.set_ 4 (.int .i64 s)
  have C9 := Cur.far hc3 (p := ⟨w1.heap.size, 4, none⟩) b_34 (.int .i64 s)
  have D9 := Dr.set (D2.out.trans E3) (p := ⟨w1.heap.size, 4, none⟩) (.inr b_34) (.int .i64 s)
  have P0 := (p0.dr E3 b_37).set (p := ⟨w1.heap.size, 4, none⟩) (.inr b_34) (.int .i64 s)
  have P1 := (p1.dr E3 b_37).set (p := ⟨w1.heap.size, 4, none⟩) (.inr b_34) (.int .i64 s)
  have P2 := (p2.dr E3 b_37).set (p := ⟨w1.heap.size, 4, none⟩) (.inr b_34) (.int .i64 s)
  have Q9 : RdI tData (w.heap.size + 1) w3.heap.size (w3.setCell ⟨w1.heap.size, 4, none⟩ (.int .i64 s)) [.slice A0 (List.length x.1) c0, .slice A1 (List.length x.2.1) c1, .slice A2 (List.length x.2.2.1) c2, .int .i64 x.2.2.2.1, .int .i64 s] (x.1, x.2.1, x.2.2.1, x.2.2.2.1, s) := RdI.data (x := (x.1, x.2.1, x.2.2.1, x.2.2.2.1, s)) (P0.mono b_37 (by have := P0.1; rw [World.size_setCell] at this; omega) b_26) (P1.mono b_37 (by have := P1.1; rw [World.size_setCell] at this; omega) b_26) (P2.mono b_37 (by have := P2.1; rw [World.size_setCell] at this; omega) b_26) hi3 hnew
  clear P0 P1 P2 p0 p1 p2 hN3 hO3 hc3 E3 hO2 hN2 hc2
  obtain ⟨o0, o1, o2, o3, o4, q0, q1, q2, q3, q4⟩ := blk5 hO9
  have zO9 := hO9.lt
  have zN9 := hN9.lt
  obtain ⟨m0, m1, m2, m3, m4, -⟩ := blk5 hN9
  go_wp2_with fail
  obtain ⟨w9, hw9⟩ : ∃ w9, w9 = ((((((w3.setCell ⟨w1.heap.size, 4, none⟩ (.int .i64 s)).setCell ⟨w.heap.size, 0, none⟩ (.slice A0 (List.length x.1) c0)).setCell ⟨w.heap.size, 1, none⟩ (.slice A1 (List.length x.2.1) c1)).setCell ⟨w.heap.size, 2, none⟩ (.slice A2 (List.length x.2.2.1) c2)).setCell ⟨w.heap.size, 3, none⟩ (.int .i64 x.2.2.2.1)).setCell ⟨w.heap.size, 4, none⟩ (.int .i64 s)) := ⟨_, rfl⟩
  obtain ⟨hP9, hK9, hs9, C10, F10⟩ := stored5 (v0 := .slice A0 (List.length x.1) c0) (v1 := .slice A1 (List.length x.2.1) c1) (v2 := .slice A2 (List.length x.2.2.1) c2) (v3 := .int .i64 x.2.2.2.1) (v4 := .int .i64 s) hO9 (.inl hw9) (B := B) hB C9
  rw [← hw9]
  obtain ⟨o0, o1, o2, o3, o4, -⟩ := blk5 hP9
  have D10 := F10 w (Nat.le_refl _) D9
  refine bodyPost_ret (v := .agg #[.slice A0 (List.length x.1) c0, .slice A1 (List.length x.2.1) c1, .slice A2 (List.length x.2.2.1) c2, .int .i64 x.2.2.2.1, .int .i64 s]) (by simp [results, Tryz.results112, go_sem, o0, o1, o2, o3, o4]) rfl ?_
  exact ⟨D10, C10, _, (x.1, x.2.1, x.2.2.1, x.2.2.2.1, s), rfl, (RdI.keep (Q9) hs9 (fun q h1 h2 => hK9 q b_37)).mono b_37 (by have := Q9.1; omega) (Nat.le_refl _), hok⟩
 ·go_wp2_with fail
  refine Calls.mono (C_spec_l1Below _ B 3 b_14 b_36 b_36) ?_
  rintro e wa ⟨hda, hca, m, rfl, hm0, hm1⟩
  obtain ⟨m, rfl⟩ : ∃ i : Nat, m = i := ⟨m.toNat, by omega⟩
  have za := hda.size
  (try simp only [szz] at za)
  have Ea : Dr B w2 wa := b_5
  clear hda
  have hv : IntKind.i64.wrap (59 + (m : Int)) = 59 + (m : Int) := IntWalk.i64_in _ b_37
  have hmk : ∀ W : World, (Instr.makeSlice 22 (.int .i64 (59 + (m : Int))) (.int .i64 (59 + (m : Int)))).run Tryz.prog W = .ok (.slice (some ⟨W.heap.size, 0, none⟩) (59 + m) (59 + m)) (W.alloc (.cells (madeCells #[.int .u8 0] (59 + m)) 5)) := fun W => by
   have := run_make_row' (P := Tryz.prog) 22 5 (.int .u8 0) 1 Tryz.underlying22 info_Byte rfl .i64 .i64 (59 + m) b_37 b_37 W
   rw [show ((59 + m : Nat) : Int) = 59 + (m : Int) by omega] at this; exact this
  obtain ⟨w3, hw3⟩ : ∃ w3, w3 = wa.alloc (.cells (madeCells #[.int .u8 0] (59 + m)) 5) := ⟨_, rfl⟩
  have E3 : Dr B w2 w3 := by rw [hw3]; exact Dr.alloc Ea _
  have hc3 : CurT w3 B := by rw [hw3]; exact Cur.alloc hca _
  have z3 : w2.heap.size < w3.heap.size := by rw [hw3, World.size_alloc]; omega
  have hQ3 : RdI (.sl .byte) wa.heap.size w3.heap.size w3 [.slice (some ⟨wa.heap.size, 0, none⟩) (59 + m) (59 + m)] (List.replicate (59 + m) (0 : UInt8)) := by
   rw [hw3, World.size_alloc]; exact rdI_made _ _ _ b_37
  have hlr : List.length (List.replicate (59 + m) (0 : UInt8)) ≤ 61 := by rw [List.length_replicate]; omega
  have hO3 := Dr.blk E3 hO2 b_37
  have hN3 := Dr.blk E3 hN2 b_37
  clear k0 k1 k2 k3 k4 j0 j1 j2 j3 j4
  obtain ⟨k0, k1, k2, k3, k4, j0, j1, j2, j3, j4⟩ := blk5 hN3
  have hzN3 := hN3.lt
  have hO9 := hO3.far (p := ⟨w1.heap.size, 1, none⟩) b_34 (.slice (some ⟨wa.heap.size, 0, none⟩) (59 + m) (59 + m))
  have hN9 := hN3.set_ 1 (.slice (some ⟨wa.heap.size, 0, none⟩) (59 + m) (59 + m))
  have C9 := Cur.far hc3 (p := ⟨w1.heap.size, 1, none⟩) b_34 (.slice (some ⟨wa.heap.size, 0, none⟩) (59 + m) (59 + m))
  have D9 := Dr.set (D2.out.trans E3) (p := ⟨w1.heap.size, 1, none⟩) (.inr b_34) (.slice (some ⟨wa.heap.size, 0, none⟩) (59 + m) (59 + m))
  have P0 := (p0.dr E3 b_37).set (p := ⟨w1.heap.size, 1, none⟩) (.inr b_34) (.slice (some ⟨wa.heap.size, 0, none⟩) (59 + m) (59 + m))
  have P1 := (hQ3).set (p := ⟨w1.heap.size, 1, none⟩) (.inl b_34) (.slice (some ⟨wa.heap.size, 0, none⟩) (59 + m) (59 + m))
  have P2 := (p2.dr E3 b_37).set (p := ⟨w1.heap.size, 1, none⟩) (.inr b_34) (.slice (some ⟨wa.heap.size, 0, none⟩) (59 + m) (59 + m))
  have Q9 : RdI tData (w.heap.size + 1) w3.heap.size (w3.setCell ⟨w1.heap.size, 1, none⟩ (.slice (some ⟨wa.heap.size, 0, none⟩) (59 + m) (59 + m))) [.slice A0 (List.length x.1) c0, .slice (some ⟨wa.heap.size, 0, none⟩) (59 + m) (59 + m), .slice A2 (List.length x.2.2.1) c2, .int .i64 x.2.2.2.1, .int .i64 x.2.2.2.2] (x.1, List.replicate (59 + m) (0 : UInt8), x.2.2) := RdI.data (x := (x.1, List.replicate (59 + m) (0 : UInt8), x.2.2)) (P0.mono b_37 (by have := P0.1; rw [World.size_setCell] at this; omega) b_26) (P1.mono b_37 (by have := P1.1; rw [World.size_setCell] at this; omega) b_26) (P2.mono b_37 (by have := P2.1; rw [World.size_setCell] at this; omega) b_26) hi3 hi4
  clear P0 P1 P2 p0 p1 p2 hN3 hO3 hc3 E3 hO2 hN2 hc2
  subst hw3
  obtain ⟨o0, o1, o2, o3, o4, q0, q1, q2, q3, q4⟩ := blk5 hO9
  have zO9 := hO9.lt
  have zN9 := hN9.lt
  obtain ⟨m0, m1, m2, m3, m4, -⟩ := blk5 hN9
  go_wp2_with fail
  obtain ⟨w9, hw9⟩ : ∃ w9, w9 = (((((((wa.alloc (.cells (madeCells #[.int .u8 0] (59 + m)) 5)).setCell ⟨w1.heap.size, 1, none⟩ (.slice (some ⟨wa.heap.size, 0, none⟩) (59 + m) (59 + m))).setCell ⟨w.heap.size, 0, none⟩ (.slice A0 (List.length x.1) c0)).setCell ⟨w.heap.size, 1, none⟩ (.slice (some ⟨wa.heap.size, 0, none⟩) (59 + m) (59 + m))).setCell ⟨w.heap.size, 2, none⟩ (.slice A2 (List.length x.2.2.1) c2)).setCell ⟨w.heap.size, 3, none⟩ (.int .i64 x.2.2.2.1)).setCell ⟨w.heap.size, 4, none⟩ (.int .i64 x.2.2.2.2)) := ⟨_, rfl⟩
  obtain ⟨hP9, hK9, hs9, C10, F10⟩ := stored5 (v0 := .slice A0 (List.length x.1) c0) (v1 := .slice (some ⟨wa.heap.size, 0, none⟩) (59 + m) (59 + m)) (v2 := .slice A2 (List.length x.2.2.1) c2) (v3 := .int .i64 x.2.2.2.1) (v4 := .int .i64 x.2.2.2.2) hO9 (.inl hw9) (B := B) hB C9
  rw [← hw9]
  obtain ⟨o0, o1, o2, o3, o4, -⟩ := blk5 hP9
  have D10 := F10 w (Nat.le_refl _) D9
  refine bodyPost_ret (v := .agg #[.slice A0 (List.length x.1) c0, .slice (some ⟨wa.heap.size, 0, none⟩) (59 + m) (59 + m), .slice A2 (List.length x.2.2.1) c2, .int .i64 x.2.2.2.1, .int .i64 x.2.2.2.2]) (by simp [results, Tryz.results112, go_sem, o0, o1, o2, o3, o4]) rfl ?_
  exact ⟨D10, C10, _, (x.1, List.replicate (59 + m) (0 : UInt8), x.2.2), rfl, (RdI.keep (Q9) hs9 (fun q h1 h2 => hK9 q b_37)).mono b_37 (by have := Q9.1; omega) (Nat.le_refl _), ⟨hok.1, hlr, hok.2.2⟩⟩
 ·have q0 : (k == 0) = false := by rw [beq_eq_false_iff_ne]; exact hk.1
  have q1 : (k == 1) = false := by rw [beq_eq_false_iff_ne]; exact hk.2.1
  have q2 : (k == 2) = false := by rw [beq_eq_false_iff_ne]; exact hk.2.2.1
  have q3 : (k == 3) = false := by rw [beq_eq_false_iff_ne]; exact hk.2.2.2.1
  have q4 : (k == 4) = false := by rw [beq_eq_false_iff_ne]; exact hk.2.2.2.2
  have hO9 := hO2
  have hN9 := hN2
  have C9 := hc2
  have D9 := D2.out
  have Q9 : RdI tData (w.heap.size + 1) w1.heap.size w2 [.slice A0 (List.length x.1) c0, .slice A1 (List.length x.2.1) c1, .slice A2 (List.length x.2.2.1) c2, .int .i64 x.2.2.2.1, .int .i64 x.2.2.2.2] x := RdI.data p0 p1 p2 hi3 hi4
  clear k0 k1 k2 k3 k4 j0 j1 j2 j3 j4 hO2 hN2
  obtain ⟨o0, o1, o2, o3, o4, q0, q1, q2, q3, q4⟩ := blk5 hO9
  have zO9 := hO9.lt
  have zN9 := hN9.lt
  obtain ⟨m0, m1, m2, m3, m4, -⟩ := blk5 hN9
  go_wp2_with fail
  obtain ⟨w9, hw9⟩ : ∃ w9, w9 = (((((w2.setCell ⟨w.heap.size, 0, none⟩ (.slice A0 (List.length x.1) c0)).setCell ⟨w.heap.size, 1, none⟩ (.slice A1 (List.length x.2.1) c1)).setCell ⟨w.heap.size, 2, none⟩ (.slice A2 (List.length x.2.2.1) c2)).setCell ⟨w.heap.size, 3, none⟩ (.int .i64 x.2.2.2.1)).setCell ⟨w.heap.size, 4, none⟩ (.int .i64 x.2.2.2.2)) := ⟨_, rfl⟩
  obtain ⟨hP9, hK9, hs9, C10, F10⟩ := stored5 (v0 := .slice A0 (List.length x.1) c0) (v1 := .slice A1 (List.length x.2.1) c1) (v2 := .slice A2 (List.length x.2.2.1) c2) (v3 := .int .i64 x.2.2.2.1) (v4 := .int .i64 x.2.2.2.2) hO9 (.inl hw9) (B := B) hB C9
  rw [← hw9]
  obtain ⟨o0, o1, o2, o3, o4, -⟩ := blk5 hP9
  have D10 := F10 w (Nat.le_refl _) D9
  refine bodyPost_ret (v := .agg #[.slice A0 (List.length x.1) c0, .slice A1 (List.length x.2.1) c1, .slice A2 (List.length x.2.2.1) c2, .int .i64 x.2.2.2.1, .int .i64 x.2.2.2.2]) (by simp [results, Tryz.results112, go_sem, o0, o1, o2, o3, o4]) rfl ?_
  exact ⟨D10, C10, _, x, rfl, (RdI.keep (Q9) hs9 (fun q h1 h2 => hK9 q b_37)).mono b_37 (by have := Q9.1; omega) (Nat.le_refl _), hok⟩
theorem ow_Key_mk {w : World} {A : Option Addr} {c : Nat} {x : Ty.D tKey} {f : List Nat} (h : (Ty.sl .str).ow w [.slice A (List.length x.1) c] x.1 f) (b : -9223372036854775808 ≤ x.2 ∧ x.2 ≤ 9223372036854775807) :
  Ty.ow w tKey [.slice A (List.length x.1) c, .int .i64 x.2] x f := ⟨[_], [_], f, [], rfl, (List.append_nil _).symm, h, ⟨rfl, b⟩, rfl⟩
set_option maxHeartbeats 2000000 in
theorem C_spec_l9Copy (w : World) (v : Value) (x : List (Ty.D tKey)) (h : (Ty.sl tKey).rd w [v] x) (s0 : Ty.bulk (.sl tKey) x ≤ 1000000000) :
  Calls Tryz.prog 99 #[v] w (RetDRow tKey w 68 x) := by
 obtain ⟨A, c, rfl, hc, hm, hn⟩ := Ty.rd_sl h
 have hxl := Ty.bulk_len s0
 go_enter Tryz.func99, Tryz.ntmps99
 go_wp2
 go_loopw [3, 4] (fun l i wr => ∃ k : Nat, k ≤ x.length ∧ i = .int .i64 k ∧ DRow tKey wr w.heap.size 68 l (x.take k) ∧ Below w.heap.size w wr) (fun _ i _ => x.length - (intOf i).toNat)
 case atStart => exact ⟨0, by omega, rfl, DRow.lit0 tKey w 68 (Nat.le_refl _), b_10⟩
 case round =>
  obtain ⟨k, hk, rfl, hr, hb⟩ := hrel
  have HR := Lib.hid hr
  clear hr
  by_cases hlt : k < x.length
  ·obtain ⟨b, o, ds, rfl, hl, hcell, hrd⟩ := Ty.rd_at (Ty.rd_below hb h) hlt
   obtain ⟨Aa0, ca0, rfl, sag0, sag1⟩ := rd_Key hrd
   have e0 : wr.cell? ⟨b, o + k * 2, none⟩ = some (.slice Aa0 (List.length x[k].1) ca0) := by simpa [Ty.sz] using hcell 0 b_36
   have e1 : wr.cell? ⟨b, o + k * 2 + 1, none⟩ = some (.int .i64 x[k].2) := by simpa [Ty.sz] using hcell 1 b_36
   clear hcell hl
   have hbk : Ty.bulk tKey x[k] ≤ 1000000000 := Ty.bulk_at s0 hlt
   have hbk2 : x[k].1.length ≤ 1000000000000 := by
    have h1 : Ty.bulk (.sl .str) x[k].1 + 0 ≤ 1000000000 := hbk
    have := Ty.bulk_len (e := .str) (x := x[k].1) (n := 1000000000) b_37
    omega
   have HP := Lib.hid (List.take_succ_eq_append_getElem hlt)
   have HL := Lib.hid (show (x.take k).length = k from by rw [List.length_take]; omega)
   go_wp2_with fail
   refine (C_spec_l4Copy _ _ x[k].1 sag0 hbk2).mono ?_
   rintro e w1 ⟨cs1, fp1, rfl, how1, hfr1, hb1⟩
   obtain ⟨A1, c1, rfl⟩ := Ty.ow_slv how1
   have hlb0 : b < w.heap.size := by
    obtain ⟨b', o', ds', he', hl', hc', _⟩ := Ty.rd_at h hlt
    injection he' with he'
    injection he' with he1 he2
    have := hc' 0 b_36
    rw [List.getElem?_eq_getElem (by rw [hl']; decide)] at this
    have := World.block_lt_of_cell? w _ this
    rw [he1]; exact this
   have hlb1 : b < wr.heap.size := Nat.lt_of_lt_of_le hlb0 hb.size
   have hlb : b < w1.heap.size := Nat.lt_of_lt_of_le hlb1 hb1.size
   have q1 : w1.cell? ⟨b, o + k * 2 + 1, none⟩ = some (.int .i64 x[k].2) := (hb1.cell (p := ⟨b, o + k * 2 + 1, none⟩) hlb1).trans e1
   have HS : Hid (∀ W, Below (w1.alloc (.cells #[.slice A1 (List.length x[k].1) c1] 32)).heap.size (w1.alloc (.cells #[.slice A1 (List.length x[k].1) c1] 32)) W →
     Below w.heap.size w W ∧ W.cell? ⟨w1.heap.size, 0, none⟩ = some (.slice A1 (List.length x[k].1) c1) ∧ W.cell? ⟨b, o + k * 2 + 1, none⟩ = some (.int .i64 x[k].2)) := fun W hW =>
    ⟨bel_trans hb (bel_trans hb1 (bel_trans b_10 hW)), (hW.cell b_30).trans (cell_new w1 _ _ 0 rfl), (hW.cell b_30).trans ((World.cell?_alloc_lt _ _ _ hlb).trans q1)⟩
   have hv0 : Below (w1.alloc (.cells #[.slice A1 (List.length x[k].1) c1] 32)).heap.size (w1.alloc (.cells #[.slice A1 (List.length x[k].1) c1] 32)) (w1.alloc (.cells #[.slice A1 (List.length x[k].1) c1] 32)) := Below.refl _ _
   have sag1' := sag1
   go_wp2_with fail
   set_option maxRecDepth 100000 in go_region_held3 (fun W => Below w.heap.size w W ∧ W.cell? ⟨w1.heap.size, 0, none⟩ = some (.slice A1 (List.length x[k].1) c1) ∧ W.cell? ⟨b, o + k * 2 + 1, none⟩ = some (.int .i64 x[k].2)) (first | (exact hz) | (exact HS.out _ b_10))
    (first
     | ((refine step_append_drow b_39 _ _ 24 b_39 wr w.heap.size 68 info_Key rfl Tryz.underlying24 _ _ (x.take k) [x[k]] b_39 b_39 HR.out (bel_trans hb1 (bel_trans (bel_alloc (Below.refl _ _) _) b_10)) (Src.drew (Src.litE 68 (ow_Key_mk (Ty.ow_bel b_10 how1) sag1) (hfr1.mono (Nat.le_refl _) (by simp only [size_drewN, World.size_drew, World.size_alloc]; omega)) (by simp only [World.size_alloc]))) (by rw [HL.out, List.length_singleton]; omega) (by rw [HL.out, List.length_singleton]; unfold maxLen; omega) hb.size ?_); intro v' w' hr' hg'; have hq := HS.out _ (bel_drew (bel_alloc hv0 (.cells #[.slice A1 (List.length x[k].1) c1, .int .i64 x[k].2] 68))); have hne : some w1.heap.size ≠ u3.ownBlock := fun e => (by have := (HR.out.block _ e.symm).2; have := hb1.size; omega); have hne2 : some b ≠ u3.ownBlock := fun e => (by have := (HR.out.block _ e.symm).1; omega); have hz : Below w.heap.size w w' ∧ w'.cell? ⟨w1.heap.size, 0, none⟩ = some (.slice A1 (List.length x[k].1) c1) ∧ w'.cell? ⟨b, o + k * 2 + 1, none⟩ = some (.int .i64 x[k].2) := ⟨bel_grown hq.1 hq.1.size hg' (fun g hg => (HR.out.block g hg).1), hg'.cell hq.2.1 hne, hg'.cell hq.2.2 hne2⟩))
   have HR' := Lib.hid hr'
   clear hr'
   go_wp2
   go_roundw
   case rel => exact ⟨k + 1, by omega, by go_num, by rw [HP.out]; exact HR'.out, hz.1⟩
   case measure => simp [intOf]; omega
  ·have HE : Hid (x.take k = x) := List.take_of_length_le b_37
   go_wp2
   go_ret
   exact ⟨_, rfl, by rw [HE.out] at HR; exact HR.out, hb⟩
def sameSecret (s : Int) (k : Ty.D tKey) : Bool := decide (k.2 = s)
def keyAt (x : List (Ty.D tKey)) (i : Nat) (k : Ty.D tKey) : Bool := validName k.1 && (decide (0 < k.1.length) && (inR k.2 1 2147483646 && (!(x.take i).any (sameName k.1) && !(x.take i).any (sameSecret k.2))))
def vkP (x : List (Ty.D tKey)) (i : Nat) : Bool := match x[i]? with | some k => keyAt x i k | none => true
theorem vkP_at {x : List (Ty.D tKey)} {i : Nat} (h : i < x.length) : vkP x i = keyAt x i x[i] := by unfold vkP; rw [List.getElem?_eq_getElem h]
def f_ValidKeys (x : List (Ty.D tKey)) : Bool := (List.range x.length).all (vkP x) && decide (x.length ≤ 8)
theorem rangeAll_succ (p : Nat → Bool) (k : Nat) : (List.range (k + 1)).all p = ((List.range k).all p && p k) := by rw [List.range_succ, List.all_append]; simp
theorem any_or2 {α : Type} (l : List α) (p q : α → Bool) (h : l.any (fun o => p o || q o) = false) : l.any p = false ∧ l.any q = false := by
 rw [List.any_eq_false] at h
 refine ⟨List.any_eq_false.2 fun a ha => ?_, List.any_eq_false.2 fun a ha => ?_⟩
 ·have := h a ha; intro hp; rw [hp] at this; simp at this
 ·have := h a ha; intro hp; rw [hp] at this; simp at this
theorem Ty.rd_take {w : World} {e : Ty} {A : Option Addr} {n c : Nat} {x : List e.D} (h : (Ty.sl e).rd w [.slice A n c] x) {k : Nat} (hk : k ≤ x.length) : (Ty.sl e).rd w [.slice A k c] (x.take k) := by
 obtain ⟨A', c', h1, h2, h3, h4, h5⟩ := h
 injection h1 with h1 _
 injection h1 with h1 hn1 h6
 subst h1; subst h6
 have hl : (x.take k).length = k := by rw [List.length_take]; omega
 have h2' : x.length ≤ c := h2
 have h4' : x.length ≤ 9223372036854775807 := h4
 refine ⟨A, c, by rw [show List.length (x.take k) = k from hl], by show (x.take k).length ≤ c; omega, h3, by show (x.take k).length ≤ _; omega, fun hn => ?_⟩
 have hn' : 0 < (x.take k).length := hn
 obtain ⟨b, o, hA, hc⟩ := h5 (by show 0 < x.length; omega)
 refine ⟨b, o, hA, fun i hi => ?_⟩
 have hi' : i < k := by have : i < (x.take k).length := hi; omega
 obtain ⟨ds, g1, g2, g3⟩ := hc i b_37
 exact ⟨ds, g1, g2, by rw [List.getElem_take]; exact g3⟩
set_option maxHeartbeats 2000000 in
theorem C_impl_ValidKeysG (w : World) (v : Value) (x : List (Ty.D tKey)) (h : (Ty.sl tKey).rd w [v] x) :
  Calls Tryz.prog 49 #[v] w (RetB w (f_ValidKeys x)) := by
 obtain ⟨A, c, rfl, hc, hm, hn⟩ := Ty.rd_sl h
 have hF : f_ValidKeys x = ((List.range x.length).all (vkP x) && decide (x.length ≤ 8)) := rfl
 generalize f_ValidKeys x = F at hF ⊢
 have HF := Lib.hid hF
 clear hF
 go_enter Tryz.func49, Tryz.ntmps49
 go_wp2
 go_loopw [9] (fun i wr => ∃ k : Nat, k ≤ x.length ∧ i = .int .i64 k ∧ (List.range k).all (vkP x) = true ∧ Below w.heap.size w wr) (fun i _ => x.length - (intOf i).toNat)
 case atStart => exact ⟨0, by omega, rfl, rfl, Below.refl _ _⟩
 case round =>
  obtain ⟨k, hk, rfl, ht, hb⟩ := hrel
  have HT := Lib.hid ht
  clear ht
  obtain ⟨wo, hwo⟩ : ∃ wo, wo = wr := ⟨_, rfl⟩
  subst hwo
  by_cases hlt : k < x.length
  ·have HS := Lib.hid (rangeAll_succ (vkP x) k)
   have HK := Lib.hid (vkP_at hlt)
   have HE := Lib.hid (show keyAt x k x[k] = (validName x[k].1 && (decide (0 < x[k].1.length) && (inR x[k].2 1 2147483646 && (!(x.take k).any (sameName x[k].1) && !(x.take k).any (sameSecret x[k].2))))) from rfl)
   obtain ⟨b, o, ds, rfl, hl, hcell, hrd⟩ := Ty.rd_at (Ty.rd_below hb h) hlt
   obtain ⟨Aa0, ca0, rfl, sag0, sag1⟩ := rd_Key hrd
   have e0 : wo.cell? ⟨b, o + k * 2, none⟩ = some (.slice Aa0 (List.length x[k].1) ca0) := by simpa [Ty.sz] using hcell 0 b_36
   have e1 : wo.cell? ⟨b, o + k * 2 + 1, none⟩ = some (.int .i64 x[k].2) := by simpa [Ty.sz] using hcell 1 b_36
   clear hcell hl
   obtain ⟨_, _, _, _, _, n0⟩ := Ty.rd_sl sag0
   go_wp2_with fail
   refine (C_impl_ValidName _ _ _ (Ty.rd_below b_10 sag0)).mono ?_
   rintro e w1 ⟨rfl, hb1⟩
   have hw1 : Below w.heap.size w w1 := bel_trans (bel_trans hb b_10) hb1
   have ho1 : Below wo.heap.size wo w1 := bel_trans b_10 hb1
   obtain ⟨hc1, hf1⟩ := bcell hb1
   have z10 : wo.heap.size < w1.heap.size := by have := hb1.size; simp only [World.size_alloc] at this; omega
   have hno : Hid (∀ q, keyAt x k x[k] = q → q = false → F = false) := fun q h1 h2 => by rw [HF.out, rangeAll_not hlt (by rw [HK.out, h1, h2])]; rfl
   cases q0 : validName x[k].1
   ·rw [q0] at HE
    go_wp2
    go_ret
    exact ⟨ret_bool (hno.out _ HE.out rfl).symm, hw1⟩
   rw [q0] at HE
   by_cases hl1 : x[k].1.length = 0
   ·have H1 := Lib.hid hl1
    have q1 : ((List.length x[k].1 : Int) == 0) = true := by simp [hl1]
    clear hl1
    go_wp2
    go_ret
    exact ⟨ret_bool (hno.out _ HE.out (by simp [H1.out])).symm, hw1⟩
   have H1 := Lib.hid hl1
   have q1 : ((List.length x[k].1 : Int) == 0) = false := by rw [beq_eq_false_iff_ne]; omega
   clear hl1
   go_wp2_with fail
   refine (C_impl_ValidSecret _ _).mono ?_
   rintro e w2 ⟨rfl, rfl⟩
   cases q2 : inR x[k].2 1 2147483646
   ·rw [q2] at HE
    go_wp2
    go_ret
    exact ⟨ret_bool (hno.out _ HE.out b_38).symm, hw1⟩
   rw [q2] at HE
   have f0 : w2.cell? ⟨wo.heap.size, 0, none⟩ = some (.slice Aa0 (List.length x[k].1) ca0) := (hb1.cell b_30).trans (cell_new wo _ _ 0 rfl)
   have f1 : w2.cell? ⟨wo.heap.size, 1, none⟩ = some (.int .i64 x[k].2) := (hb1.cell b_30).trans (cell_new wo _ _ 1 rfl)
   have HTK := Lib.hid (Ty.rd_take (Ty.rd_below hw1 h) (Nat.le_of_lt hlt))
   have hlk : k ≤ c := by omega
   go_wp2
   go_loopw [35] (fun i wr => ∃ j : Nat, j ≤ k ∧ i = .int .i64 j ∧ ((x.take k).take j).any (fun o => sameName x[k].1 o || sameSecret x[k].2 o) = false ∧ Below w2.heap.size w2 wr) (fun i _ => k - (intOf i).toNat)
   case atStart => exact ⟨0, by omega, by first | rfl | simp, by simp, Below.refl _ _⟩
   case round =>
    obtain ⟨j, hj, rfl, hta, hbi⟩ := hrel
    have HTA := Lib.hid hta
    clear hta
    have hwr : Below w.heap.size w wr := bel_trans hw1 hbi
    have g0 : wr.cell? ⟨wo.heap.size, 0, none⟩ = some (.slice Aa0 (List.length x[k].1) ca0) := (hbi.cell (p := ⟨wo.heap.size, 0, none⟩) z10).trans f0
    have g1 : wr.cell? ⟨wo.heap.size, 1, none⟩ = some (.int .i64 x[k].2) := (hbi.cell (p := ⟨wo.heap.size, 1, none⟩) z10).trans f1
    have z20 : wo.heap.size < wr.heap.size := Nat.lt_of_lt_of_le z10 hbi.size
    by_cases hjk : j < k
    ·have hjt : j < (x.take k).length := by rw [List.length_take]; omega
     have HA := Lib.hid (any_take_succ (fun o => sameName x[k].1 o || sameSecret x[k].2 o) (x.take k) hjt)
     have HG := Lib.hid (show (x.take k)[j] = x[j] from List.getElem_take)
     obtain ⟨b', o', ds', hA', hl', hcell', hrd'⟩ := Ty.rd_at (Ty.rd_below hwr h) (show j < x.length by omega)
     injection hA' with hA'
     injection hA' with hA1 hA2
     subst hA1; subst hA2
     obtain ⟨Ab0, cb0, rfl, sbg0, sbg1⟩ := rd_Key hrd'
     have d0 : wr.cell? ⟨b, o + j * 2, none⟩ = some (.slice Ab0 (List.length x[j].1) cb0) := by simpa [Ty.sz] using hcell' 0 b_36
     have d1 : wr.cell? ⟨b, o + j * 2 + 1, none⟩ = some (.int .i64 x[j].2) := by simpa [Ty.sz] using hcell' 1 b_36
     clear hcell' hl'
     go_wp2_with fail
     refine (C_impl_EqualNames _ _ _ _ _ (Ty.rd_below b_10 sbg0) (Ty.rd_below (bel_trans (bel_trans ho1 hbi) b_10) sag0)).mono ?_
     rintro e w3 ⟨rfl, hb3⟩
     have hb3' : Below w2.heap.size w2 w3 := bel_trans (bel_trans hbi b_10) hb3
     have hw3 : Below w.heap.size w w3 := bel_trans hw1 hb3'
     have z3 : wr.heap.size < w3.heap.size := by have := hb3.size; simp only [World.size_alloc] at this; omega
     have z30 : wo.heap.size < w3.heap.size := by omega
     have k1 : w3.cell? ⟨wr.heap.size, 1, none⟩ = some (.int .i64 x[j].2) := (hb3.cell b_30).trans (cell_new wr _ _ 1 rfl)
     have k3 : w3.cell? ⟨wo.heap.size, 1, none⟩ = some (.int .i64 x[k].2) := (hb3'.cell (p := ⟨wo.heap.size, 1, none⟩) z10).trans f1
     have HNo : Hid (∀ q, (sameName x[k].1 x[j] || sameSecret x[k].2 x[j]) = q → q = true → F = false) := fun q h1 h2 => hno.out _ HE.out (by
      have hm : x[j] ∈ x.take k := List.mem_iff_getElem.2 ⟨j, hjt, List.getElem_take⟩
      rw [h2] at h1
      rcases Bool.or_eq_true_iff.1 h1 with h1 | h1
      ·rw [List.any_eq_true.2 ⟨_, hm, h1⟩]; simp
      ·rw [List.any_eq_true.2 ⟨_, hm, h1⟩]; simp)
     cases q3 : decide (x[j].1 = x[k].1)
     ·have HQ3 := Lib.hid (show sameName x[k].1 x[j] = false from q3)
      cases q4 : (x[j].2 == x[k].2)
      ·have HQ4 := Lib.hid (show sameSecret x[k].2 x[j] = false from by unfold sameSecret; rw [decide_eq_false_iff_not]; simpa using q4)
       go_wp2
       go_roundw
       case rel => exact ⟨j + 1, by omega, by go_num, by rw [HA.out, HTA.out, HG.out, HQ3.out, HQ4.out]; rfl, hb3'⟩
       case measure => simp [intOf]; omega
      ·have HQ4 := Lib.hid (show sameSecret x[k].2 x[j] = true from by unfold sameSecret; rw [decide_eq_true_eq]; simpa using q4)
       go_wp2
       go_ret
       exact ⟨ret_bool (HNo.out _ rfl (by rw [HQ4.out]; simp)).symm, hw3⟩
     ·have HQ3 := Lib.hid (show sameName x[k].1 x[j] = true from q3)
      go_wp2
      go_ret
      exact ⟨ret_bool (HNo.out _ rfl (by rw [HQ3.out]; simp)).symm, hw3⟩
    ·have HZ : Hid ((List.range (k + 1)).all (vkP x) = true) := by
      have h1 := HTA.out
      rw [List.take_of_length_le (by rw [List.length_take]; omega)] at h1
      have h2 := any_or2 _ _ _ h1
      rw [HS.out, HT.out, HK.out, HE.out, h2.1, h2.2]
      have := H1.out
      rw [decide_eq_true (show 0 < List.length x[k].1 by omega)]; rfl
     go_wp2
     go_roundw
     case rel => exact ⟨k + 1, by omega, by go_num, HZ.out, hwr⟩
     case measure => simp [intOf]; omega
  ·have HE : Hid ((List.range x.length).all (vkP x) = true) := by have := HT.out; rwa [show k = x.length from by omega] at this
   go_wp2
   go_ret
   exact ⟨ret_bool (by rw [HF.out, HE.out]; (rw [Bool.eq_iff_iff]; simp; try omega)), hb⟩
set_option maxHeartbeats 4000000 in
theorem C_spec_ValidKeysG (w : World) (v : Value) (x : List (Ty.D tKey)) (h : (Ty.sl tKey).rd w [v] x) :
  Calls Tryz.prog 50 #[v] w (RetB w (f_ValidKeys x)) := by
 obtain ⟨A, c, rfl, hc, hm, hn⟩ := Ty.rd_sl h
 have hF : f_ValidKeys x = ((List.range x.length).all (vkP x) && decide (x.length ≤ 8)) := rfl
 generalize f_ValidKeys x = F at hF ⊢
 have HF := Lib.hid hF
 clear hF
 go_enter Tryz.func50, Tryz.ntmps50
 go_wp2
 go_loopw [3] (fun i wr => ∃ k : Nat, k ≤ x.length ∧ i = .int .i64 k ∧ (List.range k).all (vkP x) = true ∧ Below w.heap.size w wr) (fun i _ => x.length - (intOf i).toNat)
 case atStart => exact ⟨0, by omega, rfl, rfl, Below.refl _ _⟩
 case round =>
  obtain ⟨k, hk, rfl, ht, hb⟩ := hrel
  have HT := Lib.hid ht
  clear ht
  obtain ⟨wo, hwo⟩ : ∃ wo, wo = wr := ⟨_, rfl⟩
  subst hwo
  by_cases hlt : k < x.length
  ·have HSX := Lib.hid (rangeAll_succ (vkP x) k)
   have HK := Lib.hid (vkP_at hlt)
   have HE := Lib.hid (show keyAt x k x[k] = (validName x[k].1 && (decide (0 < x[k].1.length) && (inR x[k].2 1 2147483646 && (!(x.take k).any (sameName x[k].1) && !(x.take k).any (sameSecret x[k].2))))) from rfl)
   obtain ⟨b, o, ds, rfl, hl, hcell, hrd⟩ := Ty.rd_at (Ty.rd_below hb h) hlt
   obtain ⟨Aa0, ca0, rfl, sag0, sag1⟩ := rd_Key hrd
   have e0 : wo.cell? ⟨b, o + k * 2, none⟩ = some (.slice Aa0 (List.length x[k].1) ca0) := by simpa [Ty.sz] using hcell 0 b_36
   have e1 : wo.cell? ⟨b, o + k * 2 + 1, none⟩ = some (.int .i64 x[k].2) := by simpa [Ty.sz] using hcell 1 b_36
   clear hcell hl
   obtain ⟨_, _, _, _, _, n0⟩ := Ty.rd_sl sag0
   have hlb : b < wo.heap.size := World.block_lt_of_cell? wo _ e0
   have HS : Hid (∀ W, Below wo.heap.size wo W → Below w.heap.size w W ∧ W.cell? ⟨b, o + k * 2, none⟩ = some (.slice Aa0 (List.length x[k].1) ca0) ∧ W.cell? ⟨b, o + k * 2 + 1, none⟩ = some (.int .i64 x[k].2)) := fun W hW =>
    ⟨bel_trans hb hW, (hW.cell (p := ⟨b, o + k * 2, none⟩) hlb).trans e0, (hW.cell (p := ⟨b, o + k * 2 + 1, none⟩) hlb).trans e1⟩
   have hv0 : Below wo.heap.size wo wo := Below.refl _ _
   have i0 : (0 : Int) ≤ (k : Int) := by omega
   have i1 : (k : Int) < (x.length : Int) := by omega
   have i2 : (k : Int) ≤ (c : Int) := by omega
   have HTK := Lib.hid (Ty.rd_take (Ty.rd_below hb h) (Nat.le_of_lt hlt))
   have hno : Hid (∀ q, keyAt x k x[k] = q → q = false → F = false) := fun q h1 h2 => by rw [HF.out, rangeAll_not hlt (by rw [HK.out, h1, h2])]; rfl
   cases q0 : validName x[k].1
   ·rw [q0] at HE
    go_wp2_with fail
    refine wp_region_noPanic ?_
    refine wp_region_held_drew (S := (fun W => Below w.heap.size w W ∧ W.cell? ⟨b, o + k * 2, none⟩ = some (.slice Aa0 (List.length x[k].1) ca0) ∧ W.cell? ⟨b, o + k * 2 + 1, none⟩ = some (.int .i64 x[k].2))) b_35 ?_ (fun hHeld => ?_)
    ·exact HS.out _ b_10
    refine tkz4 0 1 2 3 ?_
    try simp only [layz]
    refine tkz 4 ?_
    try simp only [layz]
    refine rz1 5 (fun K hK => ?_)
    go_simp
    go_at_call 103
    refine (C_spec_ValidName _ _ _ (Ty.rd_below b_10 sag0)).mono ?_
    rw [q0]
    rintro e w1 ⟨rfl, hb1⟩
    have hv1 : Below wo.heap.size wo w1 := bel_trans b_10 hb1
    refine hK.out _ _ (HS.out _ b_10) (fun hHeld => ?_)
    clear hK K
    try simp only [layz]
    refine tkz2 6 7 ?_
    try simp only [layz]
    refine skz 8 ?_
    try simp only [layz]
    refine skz 9 ?_
    try simp only [layz]
    refine skz 10 ?_
    try simp only [layz]
    refine skz 11 ?_
    try simp only [layz]
    refine skz 12 ?_
    try simp only [layz]
    refine skz 13 ?_
    try simp only [layz]
    refine skz 14 ?_
    try simp only [layz]
    refine skz 15 ?_
    try simp only [layz]
    refine tkz2 16 17 ?_
    try simp only [layz]
    refine skz 18 ?_
    try simp only [layz]
    refine skz 19 ?_
    try simp only [layz]
    refine skz 20 ?_
    try simp only [layz]
    refine skz 21 ?_
    try simp only [layz]
    refine skz 22 ?_
    try simp only [layz]
    refine skz 23 ?_
    try simp only [layz]
    refine skz 24 ?_
    try simp only [layz]
    refine tkz2 25 26 ?_
    try simp only [layz]
    refine skz 27 ?_
    try simp only [layz]
    refine skz 28 ?_
    try simp only [layz]
    refine skz 29 ?_
    try simp only [layz]
    refine skz 30 ?_
    try simp only [layz]
    refine skz 31 ?_
    try simp only [layz]
    refine skz 32 ?_
    try simp only [layz]
    refine skz 33 ?_
    try simp only [layz]
    refine skz 34 ?_
    try simp only [layz]
    refine skz 35 ?_
    try simp only [layz]
    refine skz 36 ?_
    try simp only [layz]
    refine tkz 37 ?_
    try simp only [layz]
    refine wpAnyH_done b_35 ?_ _
    refine NoPanic.normal ?_
    go_wp2
    go_ret
    exact ⟨ret_bool (hno.out _ HE.out rfl).symm, bel_trans hb hv1⟩
   rw [q0] at HE
   by_cases hl1 : x[k].1.length = 0
   ·have H1 := Lib.hid hl1
    have q1 : ((List.length x[k].1 : Int) == 0) = true := by simp [hl1]
    clear hl1
    go_wp2_with fail
    refine wp_region_noPanic ?_
    refine wp_region_held_drew (S := (fun W => Below w.heap.size w W ∧ W.cell? ⟨b, o + k * 2, none⟩ = some (.slice Aa0 (List.length x[k].1) ca0) ∧ W.cell? ⟨b, o + k * 2 + 1, none⟩ = some (.int .i64 x[k].2))) b_35 ?_ (fun hHeld => ?_)
    ·exact HS.out _ b_10
    refine tkz4 0 1 2 3 ?_
    try simp only [layz]
    refine tkz 4 ?_
    try simp only [layz]
    refine rz1 5 (fun K hK => ?_)
    go_simp
    go_at_call 103
    refine (C_spec_ValidName _ _ _ (Ty.rd_below b_10 sag0)).mono ?_
    rw [q0]
    rintro e w1 ⟨rfl, hb1⟩
    have hv1 : Below wo.heap.size wo w1 := bel_trans b_10 hb1
    refine hK.out _ _ (HS.out _ b_10) (fun hHeld => ?_)
    clear hK K
    try simp only [layz]
    refine tkz4 6 7 8 9 ?_
    try simp only [layz]
    refine tkz4 10 11 12 13 ?_
    try simp only [layz]
    refine tkz4 14 15 16 17 ?_
    try simp only [layz]
    refine skz 18 ?_
    try simp only [layz]
    refine skz 19 ?_
    try simp only [layz]
    refine skz 20 ?_
    try simp only [layz]
    refine skz 21 ?_
    try simp only [layz]
    refine skz 22 ?_
    try simp only [layz]
    refine skz 23 ?_
    try simp only [layz]
    refine skz 24 ?_
    try simp only [layz]
    refine tkz2 25 26 ?_
    try simp only [layz]
    refine skz 27 ?_
    try simp only [layz]
    refine skz 28 ?_
    try simp only [layz]
    refine skz 29 ?_
    try simp only [layz]
    refine skz 30 ?_
    try simp only [layz]
    refine skz 31 ?_
    try simp only [layz]
    refine skz 32 ?_
    try simp only [layz]
    refine skz 33 ?_
    try simp only [layz]
    refine skz 34 ?_
    try simp only [layz]
    refine skz 35 ?_
    try simp only [layz]
    refine skz 36 ?_
    try simp only [layz]
    refine tkz 37 ?_
    try simp only [layz]
    refine wpAnyH_done b_35 ?_ _
    refine NoPanic.normal ?_
    go_wp2
    go_ret
    exact ⟨ret_bool (hno.out _ HE.out (by simp [H1.out])).symm, bel_trans hb hv1⟩
   have H1 := Lib.hid hl1
   have q1 : ((List.length x[k].1 : Int) == 0) = false := by rw [beq_eq_false_iff_ne]; omega
   clear hl1
   cases q2 : inR x[k].2 1 2147483646
   ·rw [q2] at HE
    go_wp2_with fail
    refine wp_region_noPanic ?_
    refine wp_region_held_drew (S := (fun W => Below w.heap.size w W ∧ W.cell? ⟨b, o + k * 2, none⟩ = some (.slice Aa0 (List.length x[k].1) ca0) ∧ W.cell? ⟨b, o + k * 2 + 1, none⟩ = some (.int .i64 x[k].2))) b_35 ?_ (fun hHeld => ?_)
    ·exact HS.out _ b_10
    refine tkz4 0 1 2 3 ?_
    try simp only [layz]
    refine tkz 4 ?_
    try simp only [layz]
    refine rz1 5 (fun K hK => ?_)
    go_simp
    go_at_call 103
    refine (C_spec_ValidName _ _ _ (Ty.rd_below b_10 sag0)).mono ?_
    rw [q0]
    rintro e w1 ⟨rfl, hb1⟩
    have hv1 : Below wo.heap.size wo w1 := bel_trans b_10 hb1
    refine hK.out _ _ (HS.out _ b_10) (fun hHeld => ?_)
    clear hK K
    try simp only [layz]
    refine tkz4 6 7 8 9 ?_
    try simp only [layz]
    refine tkz4 10 11 12 13 ?_
    try simp only [layz]
    refine tkz4 14 15 16 17 ?_
    try simp only [layz]
    refine tkz4 18 19 20 21 ?_
    try simp only [layz]
    refine tkz 22 ?_
    try simp only [layz]
    refine rz1 23 (fun K hK => ?_)
    go_simp
    go_at_call 104
    refine (C_spec_ValidSecret _ _).mono ?_
    rw [q2]
    rintro e w2 ⟨rfl, hw2⟩
    subst hw2
    refine hK.out _ _ (HS.out _ b_10) (fun hHeld => ?_)
    clear hK K
    try simp only [layz]
    refine tkz3 24 25 26 ?_
    try simp only [layz]
    refine skz 27 ?_
    try simp only [layz]
    refine skz 28 ?_
    try simp only [layz]
    refine skz 29 ?_
    try simp only [layz]
    refine skz 30 ?_
    try simp only [layz]
    refine skz 31 ?_
    try simp only [layz]
    refine skz 32 ?_
    try simp only [layz]
    refine skz 33 ?_
    try simp only [layz]
    refine skz 34 ?_
    try simp only [layz]
    refine skz 35 ?_
    try simp only [layz]
    refine skz 36 ?_
    try simp only [layz]
    refine tkz 37 ?_
    try simp only [layz]
    refine wpAnyH_done b_35 ?_ _
    refine NoPanic.normal ?_
    go_wp2
    go_ret
    exact ⟨ret_bool (hno.out _ HE.out b_38).symm, bel_trans hb hv1⟩
   rw [q2] at HE
   cases q4 : (x.take k).any (sameName x[k].1)
   rotate_left
   ·rw [q4] at HE
    obtain ⟨m, q3⟩ : ∃ m : Nat, ixf (sameName x[k].1) (x.take k) = m := by
     have h1 := ixf_ge (sameName x[k].1) (x.take k)
     rw [q4] at h1
     have h2 : ixf (sameName x[k].1) (x.take k) ≥ 0 := by simpa using h1
     exact ⟨(ixf (sameName x[k].1) (x.take k)).toNat, by omega⟩
    go_wp2_with fail
    refine wp_region_noPanic ?_
    refine wp_region_held_drew (S := (fun W => Below w.heap.size w W ∧ W.cell? ⟨b, o + k * 2, none⟩ = some (.slice Aa0 (List.length x[k].1) ca0) ∧ W.cell? ⟨b, o + k * 2 + 1, none⟩ = some (.int .i64 x[k].2))) b_35 ?_ (fun hHeld => ?_)
    ·exact HS.out _ b_10
    refine tkz4 0 1 2 3 ?_
    try simp only [layz]
    refine tkz 4 ?_
    try simp only [layz]
    refine rz1 5 (fun K hK => ?_)
    go_simp
    go_at_call 103
    refine (C_spec_ValidName _ _ _ (Ty.rd_below b_10 sag0)).mono ?_
    rw [q0]
    rintro e w1 ⟨rfl, hb1⟩
    have hv1 : Below wo.heap.size wo w1 := bel_trans b_10 hb1
    refine hK.out _ _ (HS.out _ b_10) (fun hHeld => ?_)
    clear hK K
    try simp only [layz]
    refine tkz4 6 7 8 9 ?_
    try simp only [layz]
    refine tkz4 10 11 12 13 ?_
    try simp only [layz]
    refine tkz4 14 15 16 17 ?_
    try simp only [layz]
    refine tkz4 18 19 20 21 ?_
    try simp only [layz]
    refine tkz 22 ?_
    try simp only [layz]
    refine rz1 23 (fun K hK => ?_)
    go_simp
    go_at_call 104
    refine (C_spec_ValidSecret _ _).mono ?_
    rw [q2]
    rintro e w2 ⟨rfl, hw2⟩
    subst hw2
    refine hK.out _ _ (HS.out _ b_10) (fun hHeld => ?_)
    clear hK K
    try simp only [layz]
    refine tkz4 24 25 26 27 ?_
    try simp only [layz]
    refine tkz4 28 29 30 31 ?_
    try simp only [layz]
    refine tkz3 32 33 34 ?_
    try simp only [layz]
    refine rz1 35 (fun K hK => ?_)
    go_simp
    go_at_call 80
    refine (C_spec_l9Find _ _ (x.take k) _ x[k].1 (Ty.rd_below b_10 HTK.out) (Ty.rd_below b_10 sag0)).mono ?_
    rw [q3]
    rintro e w3 ⟨rfl, hb3⟩
    have hv3 : Below wo.heap.size wo w3 := bel_trans b_10 hb3
    refine hK.out _ _ (HS.out _ b_10) (fun hHeld => ?_)
    clear hK K
    try simp only [layz]
    refine tkz2 36 37 ?_
    try simp only [layz]
    refine wpAnyH_done b_35 ?_ _
    refine NoPanic.normal ?_
    go_wp2
    go_ret
    exact ⟨ret_bool (hno.out _ HE.out b_38).symm, bel_trans hb hv3⟩
   rw [q4] at HE
   have q3 : ixf (sameName x[k].1) (x.take k) = -1 := ixf_miss _ _ q4
   go_wp2_with fail
   refine wp_region_noPanic ?_
   refine wp_region_held_drew (S := (fun W => Below w.heap.size w W ∧ W.cell? ⟨b, o + k * 2, none⟩ = some (.slice Aa0 (List.length x[k].1) ca0) ∧ W.cell? ⟨b, o + k * 2 + 1, none⟩ = some (.int .i64 x[k].2))) b_35 ?_ (fun hHeld => ?_)
   ·exact HS.out _ b_10
   refine tkz4 0 1 2 3 ?_
   try simp only [layz]
   refine tkz 4 ?_
   try simp only [layz]
   refine rz1 5 (fun K hK => ?_)
   go_simp
   go_at_call 103
   refine (C_spec_ValidName _ _ _ (Ty.rd_below b_10 sag0)).mono ?_
   rw [q0]
   rintro e w1 ⟨rfl, hb1⟩
   have hv1 : Below wo.heap.size wo w1 := bel_trans b_10 hb1
   refine hK.out _ _ (HS.out _ b_10) (fun hHeld => ?_)
   clear hK K
   try simp only [layz]
   refine tkz4 6 7 8 9 ?_
   try simp only [layz]
   refine tkz4 10 11 12 13 ?_
   try simp only [layz]
   refine tkz4 14 15 16 17 ?_
   try simp only [layz]
   refine tkz4 18 19 20 21 ?_
   try simp only [layz]
   refine tkz 22 ?_
   try simp only [layz]
   refine rz1 23 (fun K hK => ?_)
   go_simp
   go_at_call 104
   refine (C_spec_ValidSecret _ _).mono ?_
   rw [q2]
   rintro e w2 ⟨rfl, hw2⟩
   subst hw2
   refine hK.out _ _ (HS.out _ b_10) (fun hHeld => ?_)
   clear hK K
   try simp only [layz]
   refine tkz4 24 25 26 27 ?_
   try simp only [layz]
   refine tkz4 28 29 30 31 ?_
   try simp only [layz]
   refine tkz3 32 33 34 ?_
   try simp only [layz]
   refine rz1 35 (fun K hK => ?_)
   go_simp
   go_at_call 80
   refine (C_spec_l9Find _ _ (x.take k) _ x[k].1 (Ty.rd_below b_10 HTK.out) (Ty.rd_below b_10 sag0)).mono ?_
   rw [q3]
   rintro e w3 ⟨rfl, hb3⟩
   have hv3 : Below wo.heap.size wo w3 := bel_trans b_10 hb3
   refine hK.out _ _ (HS.out _ b_10) (fun hHeld => ?_)
   clear hK K
   try simp only [layz]
   refine tkz2 36 37 ?_
   try simp only [layz]
   refine wpAnyH_done b_35 ?_ _
   refine NoPanic.normal ?_
   have hw3 : Below w.heap.size w w3 := bel_trans hb hv3
   go_wp2
   go_loopw [4] (fun i wr => ∃ j : Nat, j ≤ k ∧ i = .int .i64 j ∧ ((x.take k).take j).any (sameSecret x[k].2) = false ∧ Below w3.heap.size w3 wr) (fun i _ => k - (intOf i).toNat)
   case atStart => exact ⟨0, by omega, by first | rfl | simp, by simp, Below.refl _ _⟩
   case round =>
    obtain ⟨j, hj, rfl, hta, hbi⟩ := hrel
    have HTA := Lib.hid hta
    clear hta
    have hwr : Below w.heap.size w wr := bel_trans hw3 hbi
    by_cases hjk : j < k
    ·have hjt : j < (x.take k).length := by rw [List.length_take]; omega
     have HA := Lib.hid (any_take_succ (sameSecret x[k].2) (x.take k) hjt)
     have HG := Lib.hid (show (x.take k)[j] = x[j] from List.getElem_take)
     obtain ⟨b', o', ds', hA', hl', hcell', hrd'⟩ := Ty.rd_at (Ty.rd_below hwr h) (show j < x.length by omega)
     injection hA' with hA'
     injection hA' with hA1 hA2
     subst hA1; subst hA2
     obtain ⟨Ab0, cb0, rfl, sbg0, sbg1⟩ := rd_Key hrd'
     have d1 : wr.cell? ⟨b, o + j * 2 + 1, none⟩ = some (.int .i64 x[j].2) := by simpa [Ty.sz] using hcell' 1 b_36
     have g1 : wr.cell? ⟨b, o + k * 2 + 1, none⟩ = some (.int .i64 x[k].2) := ((bel_trans hv3 hbi).cell (p := ⟨b, o + k * 2 + 1, none⟩) hlb).trans e1
     clear hcell' hl' e0 e1
     have HNo : Hid (∀ q, sameSecret x[k].2 x[j] = q → q = true → F = false) := fun q h1 h2 => hno.out _ HE.out (by
      have hm : x[j] ∈ x.take k := List.mem_iff_getElem.2 ⟨j, hjt, List.getElem_take⟩
      rw [h2] at h1
      rw [List.any_eq_true.2 ⟨_, hm, h1⟩]; simp)
     cases q5 : (x[j].2 == x[k].2)
     ·have HQ4 := Lib.hid (show sameSecret x[k].2 x[j] = false from by unfold sameSecret; rw [decide_eq_false_iff_not]; simpa using q5)
      go_wp2
      go_quiet (fail)
      go_wp2
      go_roundw
      case rel => exact ⟨j + 1, by omega, by go_num, by rw [HA.out, HTA.out, HG.out, HQ4.out]; rfl, bel_drewN hbi _⟩
      case measure => simp [intOf]; omega
     ·have HQ4 := Lib.hid (show sameSecret x[k].2 x[j] = true from by unfold sameSecret; rw [decide_eq_true_eq]; simpa using q5)
      go_wp2
      go_quiet (fail)
      go_wp2
      go_ret
      exact ⟨ret_bool (HNo.out _ rfl HQ4.out).symm, bel_drewN hwr _⟩
    ·have HZ : Hid ((List.range (k + 1)).all (vkP x) = true) := by
      have h1 := HTA.out
      rw [List.take_of_length_le (by rw [List.length_take]; omega)] at h1
      rw [HSX.out, HT.out, HK.out, HE.out, h1]
      have := H1.out
      rw [decide_eq_true (show 0 < List.length x[k].1 by omega)]; rfl
     go_wp2
     go_roundw
     case rel => exact ⟨k + 1, by omega, by go_num, HZ.out, hwr⟩
     case measure => simp [intOf]; omega
  ·have HE : Hid ((List.range x.length).all (vkP x) = true) := by have := HT.out; rwa [show k = x.length from by omega] at this
   go_wp2
   go_ret
   exact ⟨ret_bool (by rw [HF.out, HE.out]; (rw [Bool.eq_iff_iff]; simp; try omega)), hb⟩
theorem C_impl_ValidKeys (w : World) (v : Value) (x : List (Ty.D tKey)) (h : (Ty.sl tKey).rd w [v] x) (s0 : Ty.bulk (.sl tKey) x ≤ 1048576) :
  Calls Tryz.prog 49 #[v] w (RetB w (f_ValidKeys x)) := C_impl_ValidKeysG w v x h
theorem C_spec_ValidKeys (w : World) (v : Value) (x : List (Ty.D tKey)) (h : (Ty.sl tKey).rd w [v] x) (s0 : Ty.bulk (.sl tKey) x ≤ 1048576) :
  Calls Tryz.prog 50 #[v] w (RetB w (f_ValidKeys x)) := C_spec_ValidKeysG w v x h
def f0_AddKey (x : List (Ty.D tKey)) (q : Ty.D tKey) : List (Ty.D tKey) := if f_ValidKeys (x ++ [q]) then x ++ [q] else x
def f1_AddKey (x : List (Ty.D tKey)) (q : Ty.D tKey) : Bool := f_ValidKeys (x ++ [q])
end Go.Proofs.YtldgbnlcnlfmeaaGreat
