/- Texts of this claim, merged by a program: Tha Ar3 Bnt Eda. -/
import Derived.Test.YtldgbnlcnlfmeaaQhP
import Derived.Test.YtldgbnlcnlfmeaaQh8
import Derived.Deep.OwnRows
import Derived.Test.YtldgbnlcnlfmeaaQh4
import Derived.Deep.RegionHeld3
import Derived.Test.YtldgbnlcnlfmeaaQh6
import Derived.Test.YtldgbnlcnlfmeaaQh5
namespace Go.Proofs.Ytldgbnlcnlfmeaa
open Go.RowKit
set_option linter.unusedVariables false
set_option linter.unusedSimpArgs false
theorem mem_word {l : List Int} {s : Int} (h : s ∈ l) (hl : l.all (fun s => decide (-1 ≤ s ∧ s ≤ 2147483648)) = true) : -1 ≤ s ∧ s ≤ 2147483648 := by
 have := List.all_eq_true.1 hl s h; simpa only [decide_eq_true_eq] using this
theorem mul_word {x y : Int} (h0 : 0 ≤ x) (h1 : x ≤ 999999) (h2 : 0 ≤ y) (h3 : y ≤ 1999) : 0 ≤ x * y ∧ x * y ≤ 2147483648 := by
 refine ⟨Int.mul_nonneg h0 h2, ?_⟩
 have := Int.mul_le_mul h1 h3 h2 b_28
 omega
set_option maxRecDepth 100000 in
set_option maxHeartbeats 2000000 in
theorem C_spec_l3Word (w : World) (B : Nat) (hc : CurT w B) : Calls Try.prog 125 #[pB B] w (RetDT B w (DrI (-1) 2147483648)) := by
 have hB := hc.lt
 go_enter Try.func125, Try.ntmps125
 go_wp2_with fail
 refine Calls.mono (C_spec_l1Once _ B 10 b_9 b_28 b_28) ?_
 rintro e w1 ⟨hd1, hc1, yes, rfl⟩
 have E1 : Dr B w w1 := b_3
 have z1 := E1.size
 cases yes with
 | true =>
  go_wp2_with fail
  refine Calls.mono (C_spec_l1Int _ B _ [-1, 2147483647, 2147483648] b_9 b_7 b_28 b_28) ?_
  rintro e w2 ⟨hd2, hc2, s, hs, rfl⟩
  have hw := mem_word hs b_28
  have E2 : Dr B w w2 := b_3
  go_wp2
  go_ret
  exact ⟨E2, hc2, _, rfl, hw.1, hw.2⟩
 | false =>
  go_wp2_with fail
  refine Calls.mono (C_spec_l1Once _ B 4 b_9 b_28 b_28) ?_
  rintro e w2 ⟨hd2, hc2, yes, rfl⟩
  have E2 : Dr B w w2 := b_3
  have z2 := E2.size
  cases yes with
  | true =>
   go_wp2_with fail
   refine Calls.mono (C_spec_l1Int _ B _ [0, 1, 2147483646] b_9 b_7 b_28 b_28) ?_
   rintro e w3 ⟨hd3, hc3, s, hs, rfl⟩
   have hw := mem_word hs b_28
   have E3 : Dr B w w3 := b_3
   go_wp2
   go_ret
   exact ⟨E3, hc3, _, rfl, hw.1, hw.2⟩
  | false =>
   go_wp2_with fail
   refine Calls.mono (C_spec_l1Below _ B 1000000 b_9 b_28 b_28) ?_
   rintro e w3 ⟨hd3, hc3, x, rfl, hx0, hx1⟩
   have E3 : Dr B w w3 := b_3
   go_wp2_with fail
   refine Calls.mono (C_spec_l1Below _ B 2000 b_9 b_28 b_28) ?_
   rintro e w4 ⟨hd4, hc4, y, rfl, hy0, hy1⟩
   have E4 : Dr B w w4 := b_3
   have hm := mul_word hx0 (show x ≤ 999999 by omega) hy0 (show y ≤ 1999 by omega)
   have hv : IntKind.i64.wrap (x * y) = x * y := IntWalk.i64_in _ b_29
   go_wp2
   go_ret
   exact ⟨E4, hc4, _, rfl, by omega, by omega⟩
theorem rdI_made (w : World) (te : TypeId) (n : Nat) (hn : n ≤ 1000) : RdI (.sl .byte) w.heap.size (w.heap.size + 1) (w.alloc (.cells (madeCells #[.int .u8 0] n) te)) [.slice (some ⟨w.heap.size, 0, none⟩) n n] (List.replicate n (0 : UInt8)) := by
 have he : madeCells #[.int .u8 0] n = ((List.replicate n (0 : UInt8)).map flatB.enc).toArray := by
  rw [← Array.toList_inj, toList_madeCells_one, List.map_replicate]; rfl
 have hb : Blk (w.alloc (.cells (madeCells #[.int .u8 0] n) te)) w.heap.size te ((List.replicate n (0 : UInt8)).map flatB.enc).toArray := by rw [he]; exact Blk.new _ _ _
 have hr : Row flatB (w.alloc (.cells (madeCells #[.int .u8 0] n) te)) w.heap.size te (.slice (some ⟨w.heap.size, 0, none⟩) n n) (List.replicate n (0 : UInt8)) := by
  refine ⟨?_, fun _ _ => trivial⟩
  rw [List.length_replicate]
  exact ownsRow_blk hb (Nat.le_refl _) b_30 (by unfold maxLen; omega)
 have h := (GRow.ofRow rfl hr).rdI
 rw [World.size_alloc] at h
 exact h
set_option maxRecDepth 100000 in
set_option maxHeartbeats 4000000 in
theorem C_spec_l8Any (w : World) (B : Nat) (hc : CurT w B) :
  Calls Try.prog 92 #[pB B] w (RetDT B w (DrR tData w okThing)) := by
 have hB := hc.lt
 go_enter Try.func92, Try.ntmps92
 go_wp2_with fail
 refine Calls.mono (C_spec_l8Draw _ B b_9) ?_
 rintro e w1 ⟨hd1, hc1, cs, x, rfl, hQ, hok⟩
 obtain ⟨A0, c0, A1, c1, A2, c2, rfl, -, -, -, hi3, hi4⟩ := rd_Data hQ.rd
 have z1 := hd1.size
 simp only [World.size_alloc] at z1
 have D1 : Dr B w w1 := b_3
 have hO1 : Blk w1 w.heap.size 46 #[.slice none 0 0, .slice none 0 0, .slice none 0 0, .int .i64 0, .int .i64 0] := Dr.blk hd1 (Blk.new w _ _) b_29
 rw [World.size_alloc] at hQ
 clear hd1
 go_wp2_with fail
 refine Calls.mono (C_spec_l1Below _ B 12 b_9 b_28 b_28) ?_
 rintro e w2 ⟨hd2, hc2, k, rfl, hk0, hk1⟩
 have z2 := hd2.size
 simp only [World.size_alloc] at z2
 have E2 : Dr B w1 w2 := b_3
 have D2 := Lib.hid (D1.trans E2)
 have hO2 := Dr.blk E2 hO1 b_29
 have hN2 : Blk w2 w1.heap.size 46 #[.slice A0 (List.length x.1) c0, .slice A1 (List.length x.2.1) c1, .slice A2 (List.length x.2.2.1) c2, .int .i64 x.2.2.2.1, .int .i64 x.2.2.2.2] := Dr.blk hd2 (Blk.new w1 _ _) b_29
 obtain ⟨p0, p1, p2⟩ := RdI.dataP (hQ.dr E2 b_29)
 have hzN := hN2.lt
 clear hd2 hO1 E2 D1 hc1 hQ
 obtain ⟨k0, k1, k2, k3, k4, j0, j1, j2, j3, j4⟩ := blk5 hN2
 have hcase : k = 0 ∨ k = 1 ∨ k = 2 ∨ k = 3 ∨ k = 4 ∨ (k ≠ 0 ∧ k ≠ 1 ∧ k ≠ 2 ∧ k ≠ 3 ∧ k ≠ 4) := by omega
 rcases hcase with rfl | rfl | rfl | rfl | rfl | hk
 ·go_wp2_with fail
  refine Calls.mono (C_spec_l4Any _ B b_9) ?_
  rintro e w3 ⟨hd3, hc3, cs3, n3, rfl, hQ3, hok3⟩
  obtain ⟨A3, c3, rfl⟩ := Ty.rd_slv hQ3.rd
  have z3 := hd3.size
  (try simp only [szz] at z3)
  have E3 : Dr B w2 w3 := b_3
  (try simp only [szz] at hQ3)
  clear hd3
  have hO3 := Dr.blk E3 hO2 b_29
  have hN3 := Dr.blk E3 hN2 b_29
  clear k0 k1 k2 k3 k4 j0 j1 j2 j3 j4
  obtain ⟨k0, k1, k2, k3, k4, j0, j1, j2, j3, j4⟩ := blk5 hN3
  have hzN3 := hN3.lt
  have hO9 := hO3.far (p := ⟨w1.heap.size, 0, none⟩) b_25 (.slice A3 (List.length n3) c3)
  have hN9 := hN3.set_ 0 (.slice A3 (List.length n3) c3)
  have C9 := Cur.far hc3 (p := ⟨w1.heap.size, 0, none⟩) b_25 (.slice A3 (List.length n3) c3)
  have D9 := Dr.set (D2.out.trans E3) (p := ⟨w1.heap.size, 0, none⟩) (.inr b_25) (.slice A3 (List.length n3) c3)
  have P0 := (hQ3).set (p := ⟨w1.heap.size, 0, none⟩) (.inl b_25) (.slice A3 (List.length n3) c3)
  have P1 := (p1.dr E3 b_29).set (p := ⟨w1.heap.size, 0, none⟩) (.inr b_25) (.slice A3 (List.length n3) c3)
  have P2 := (p2.dr E3 b_29).set (p := ⟨w1.heap.size, 0, none⟩) (.inr b_25) (.slice A3 (List.length n3) c3)
  have Q9 : RdI tData (w.heap.size + 1) w3.heap.size (w3.setCell ⟨w1.heap.size, 0, none⟩ (.slice A3 (List.length n3) c3)) [.slice A3 (List.length n3) c3, .slice A1 (List.length x.2.1) c1, .slice A2 (List.length x.2.2.1) c2, .int .i64 x.2.2.2.1, .int .i64 x.2.2.2.2] (n3, x.2) := RdI.data (x := (n3, x.2)) (P0.mono b_29 (by have := P0.1; rw [World.size_setCell] at this; omega) b_17) (P1.mono b_29 (by have := P1.1; rw [World.size_setCell] at this; omega) b_17) (P2.mono b_29 (by have := P2.1; rw [World.size_setCell] at this; omega) b_17) hi3 hi4
  clear P0 P1 P2 p0 p1 p2 hN3 hO3 hc3 E3 hO2 hN2 hc2
  obtain ⟨o0, o1, o2, o3, o4, q0, q1, q2, q3, q4⟩ := blk5 hO9
  have zO9 := hO9.lt
  have zN9 := hN9.lt
  obtain ⟨m0, m1, m2, m3, m4, -⟩ := blk5 hN9
  go_wp2_with fail
  obtain ⟨w9, hw9⟩ : ∃ w9, w9 = ((((((w3.setCell ⟨w1.heap.size, 0, none⟩ (.slice A3 (List.length n3) c3)).setCell ⟨w.heap.size, 0, none⟩ (.slice A3 (List.length n3) c3)).setCell ⟨w.heap.size, 1, none⟩ (.slice A1 (List.length x.2.1) c1)).setCell ⟨w.heap.size, 2, none⟩ (.slice A2 (List.length x.2.2.1) c2)).setCell ⟨w.heap.size, 3, none⟩ (.int .i64 x.2.2.2.1)).setCell ⟨w.heap.size, 4, none⟩ (.int .i64 x.2.2.2.2)) := ⟨_, rfl⟩
  obtain ⟨hP9, hK9, hs9, C10, F10⟩ := stored5 (v0 := .slice A3 (List.length n3) c3) (v1 := .slice A1 (List.length x.2.1) c1) (v2 := .slice A2 (List.length x.2.2.1) c2) (v3 := .int .i64 x.2.2.2.1) (v4 := .int .i64 x.2.2.2.2) hO9 (.inl hw9) (B := B) hB C9
  rw [← hw9]
  obtain ⟨o0, o1, o2, o3, o4, -⟩ := blk5 hP9
  have D10 := F10 w (Nat.le_refl _) D9
  refine bodyPost_ret (v := .agg #[.slice A3 (List.length n3) c3, .slice A1 (List.length x.2.1) c1, .slice A2 (List.length x.2.2.1) c2, .int .i64 x.2.2.2.1, .int .i64 x.2.2.2.2]) (by simp [results, Try.results92, go_sem, o0, o1, o2, o3, o4]) rfl ?_
  exact ⟨D10, C10, _, (n3, x.2), rfl, (RdI.keep (Q9) hs9 (fun q h1 h2 => hK9 q b_29)).mono b_29 (by have := Q9.1; omega) (Nat.le_refl _), ⟨hok3, hok.2⟩⟩
 ·go_wp2_with fail
  refine Calls.mono (C_spec_l4Any _ B b_9) ?_
  rintro e w3 ⟨hd3, hc3, cs3, n3, rfl, hQ3, hok3⟩
  obtain ⟨A3, c3, rfl⟩ := Ty.rd_slv hQ3.rd
  have z3 := hd3.size
  (try simp only [szz] at z3)
  have E3 : Dr B w2 w3 := b_3
  (try simp only [szz] at hQ3)
  clear hd3
  have hO3 := Dr.blk E3 hO2 b_29
  have hN3 := Dr.blk E3 hN2 b_29
  clear k0 k1 k2 k3 k4 j0 j1 j2 j3 j4
  obtain ⟨k0, k1, k2, k3, k4, j0, j1, j2, j3, j4⟩ := blk5 hN3
  have hzN3 := hN3.lt
  have hO9 := hO3.far (p := ⟨w1.heap.size, 2, none⟩) b_25 (.slice A3 (List.length n3) c3)
  have hN9 := hN3.set_ 2 (.slice A3 (List.length n3) c3)
  have C9 := Cur.far hc3 (p := ⟨w1.heap.size, 2, none⟩) b_25 (.slice A3 (List.length n3) c3)
  have D9 := Dr.set (D2.out.trans E3) (p := ⟨w1.heap.size, 2, none⟩) (.inr b_25) (.slice A3 (List.length n3) c3)
  have P0 := (p0.dr E3 b_29).set (p := ⟨w1.heap.size, 2, none⟩) (.inr b_25) (.slice A3 (List.length n3) c3)
  have P1 := (p1.dr E3 b_29).set (p := ⟨w1.heap.size, 2, none⟩) (.inr b_25) (.slice A3 (List.length n3) c3)
  have P2 := (hQ3).set (p := ⟨w1.heap.size, 2, none⟩) (.inl b_25) (.slice A3 (List.length n3) c3)
  have Q9 : RdI tData (w.heap.size + 1) w3.heap.size (w3.setCell ⟨w1.heap.size, 2, none⟩ (.slice A3 (List.length n3) c3)) [.slice A0 (List.length x.1) c0, .slice A1 (List.length x.2.1) c1, .slice A3 (List.length n3) c3, .int .i64 x.2.2.2.1, .int .i64 x.2.2.2.2] (x.1, x.2.1, n3, x.2.2.2) := RdI.data (x := (x.1, x.2.1, n3, x.2.2.2)) (P0.mono b_29 (by have := P0.1; rw [World.size_setCell] at this; omega) b_17) (P1.mono b_29 (by have := P1.1; rw [World.size_setCell] at this; omega) b_17) (P2.mono b_29 (by have := P2.1; rw [World.size_setCell] at this; omega) b_17) hi3 hi4
  clear P0 P1 P2 p0 p1 p2 hN3 hO3 hc3 E3 hO2 hN2 hc2
  obtain ⟨o0, o1, o2, o3, o4, q0, q1, q2, q3, q4⟩ := blk5 hO9
  have zO9 := hO9.lt
  have zN9 := hN9.lt
  obtain ⟨m0, m1, m2, m3, m4, -⟩ := blk5 hN9
  go_wp2_with fail
  obtain ⟨w9, hw9⟩ : ∃ w9, w9 = ((((((w3.setCell ⟨w1.heap.size, 2, none⟩ (.slice A3 (List.length n3) c3)).setCell ⟨w.heap.size, 0, none⟩ (.slice A0 (List.length x.1) c0)).setCell ⟨w.heap.size, 1, none⟩ (.slice A1 (List.length x.2.1) c1)).setCell ⟨w.heap.size, 2, none⟩ (.slice A3 (List.length n3) c3)).setCell ⟨w.heap.size, 3, none⟩ (.int .i64 x.2.2.2.1)).setCell ⟨w.heap.size, 4, none⟩ (.int .i64 x.2.2.2.2)) := ⟨_, rfl⟩
  obtain ⟨hP9, hK9, hs9, C10, F10⟩ := stored5 (v0 := .slice A0 (List.length x.1) c0) (v1 := .slice A1 (List.length x.2.1) c1) (v2 := .slice A3 (List.length n3) c3) (v3 := .int .i64 x.2.2.2.1) (v4 := .int .i64 x.2.2.2.2) hO9 (.inl hw9) (B := B) hB C9
  rw [← hw9]
  obtain ⟨o0, o1, o2, o3, o4, -⟩ := blk5 hP9
  have D10 := F10 w (Nat.le_refl _) D9
  refine bodyPost_ret (v := .agg #[.slice A0 (List.length x.1) c0, .slice A1 (List.length x.2.1) c1, .slice A3 (List.length n3) c3, .int .i64 x.2.2.2.1, .int .i64 x.2.2.2.2]) (by simp [results, Try.results92, go_sem, o0, o1, o2, o3, o4]) rfl ?_
  exact ⟨D10, C10, _, (x.1, x.2.1, n3, x.2.2.2), rfl, (RdI.keep (Q9) hs9 (fun q h1 h2 => hK9 q b_29)).mono b_29 (by have := Q9.1; omega) (Nat.le_refl _), ⟨hok.1, hok.2.1, hok3⟩⟩
 ·go_wp2_with fail
  refine Calls.mono (C_spec_l1Int _ B _ [-1, 100000, 100001] b_9 b_7 b_28 b_28) ?_
  rintro e w3 ⟨hd3, hc3, s, hs, rfl⟩
  have z3 := hd3.size
  (try simp only [szz] at z3)
  have E3 : Dr B w2 w3 := b_3
  have hnew : -9223372036854775808 ≤ s ∧ s ≤ 9223372036854775807 := by have := mem_word hs b_28; omega
  clear hd3
  have hO3 := Dr.blk E3 hO2 b_29
  have hN3 := Dr.blk E3 hN2 b_29
  clear k0 k1 k2 k3 k4 j0 j1 j2 j3 j4
  obtain ⟨k0, k1, k2, k3, k4, j0, j1, j2, j3, j4⟩ := blk5 hN3
  have hzN3 := hN3.lt
  have hO9 := hO3.far (p := ⟨w1.heap.size, 3, none⟩) b_25 (.int .i64 s)
  have hN9 := hN3.set_ 3 (.int .i64 s)
  have C9 := Cur.far hc3 (p := ⟨w1.heap.size, 3, none⟩) b_25 (.int .i64 s)
  have D9 := Dr.set (D2.out.trans E3) (p := ⟨w1.heap.size, 3, none⟩) (.inr b_25) (.int .i64 s)
  have P0 := (p0.dr E3 b_29).set (p := ⟨w1.heap.size, 3, none⟩) (.inr b_25) (.int .i64 s)
  have P1 := (p1.dr E3 b_29).set (p := ⟨w1.heap.size, 3, none⟩) (.inr b_25) (.int .i64 s)
  have P2 := (p2.dr E3 b_29).set (p := ⟨w1.heap.size, 3, none⟩) (.inr b_25) (.int .i64 s)
  have Q9 : RdI tData (w.heap.size + 1) w3.heap.size (w3.setCell ⟨w1.heap.size, 3, none⟩ (.int .i64 s)) [.slice A0 (List.length x.1) c0, .slice A1 (List.length x.2.1) c1, .slice A2 (List.length x.2.2.1) c2, .int .i64 s, .int .i64 x.2.2.2.2] (x.1, x.2.1, x.2.2.1, s, x.2.2.2.2) := RdI.data (x := (x.1, x.2.1, x.2.2.1, s, x.2.2.2.2)) (P0.mono b_29 (by have := P0.1; rw [World.size_setCell] at this; omega) b_17) (P1.mono b_29 (by have := P1.1; rw [World.size_setCell] at this; omega) b_17) (P2.mono b_29 (by have := P2.1; rw [World.size_setCell] at this; omega) b_17) hnew hi4
  clear P0 P1 P2 p0 p1 p2 hN3 hO3 hc3 E3 hO2 hN2 hc2
  obtain ⟨o0, o1, o2, o3, o4, q0, q1, q2, q3, q4⟩ := blk5 hO9
  have zO9 := hO9.lt
  have zN9 := hN9.lt
  obtain ⟨m0, m1, m2, m3, m4, -⟩ := blk5 hN9
  go_wp2_with fail
  obtain ⟨w9, hw9⟩ : ∃ w9, w9 = ((((((w3.setCell ⟨w1.heap.size, 3, none⟩ (.int .i64 s)).setCell ⟨w.heap.size, 0, none⟩ (.slice A0 (List.length x.1) c0)).setCell ⟨w.heap.size, 1, none⟩ (.slice A1 (List.length x.2.1) c1)).setCell ⟨w.heap.size, 2, none⟩ (.slice A2 (List.length x.2.2.1) c2)).setCell ⟨w.heap.size, 3, none⟩ (.int .i64 s)).setCell ⟨w.heap.size, 4, none⟩ (.int .i64 x.2.2.2.2)) := ⟨_, rfl⟩
  obtain ⟨hP9, hK9, hs9, C10, F10⟩ := stored5 (v0 := .slice A0 (List.length x.1) c0) (v1 := .slice A1 (List.length x.2.1) c1) (v2 := .slice A2 (List.length x.2.2.1) c2) (v3 := .int .i64 s) (v4 := .int .i64 x.2.2.2.2) hO9 (.inl hw9) (B := B) hB C9
  rw [← hw9]
  obtain ⟨o0, o1, o2, o3, o4, -⟩ := blk5 hP9
  have D10 := F10 w (Nat.le_refl _) D9
  refine bodyPost_ret (v := .agg #[.slice A0 (List.length x.1) c0, .slice A1 (List.length x.2.1) c1, .slice A2 (List.length x.2.2.1) c2, .int .i64 s, .int .i64 x.2.2.2.2]) (by simp [results, Try.results92, go_sem, o0, o1, o2, o3, o4]) rfl ?_
  exact ⟨D10, C10, _, (x.1, x.2.1, x.2.2.1, s, x.2.2.2.2), rfl, (RdI.keep (Q9) hs9 (fun q h1 h2 => hK9 q b_29)).mono b_29 (by have := Q9.1; omega) (Nat.le_refl _), hok⟩
 ·go_wp2_with fail
  refine Calls.mono (C_spec_l3Word _ B b_9) ?_
  rintro e w3 ⟨hd3, hc3, s, rfl, hs0, hs1⟩
  have z3 := hd3.size
  (try simp only [szz] at z3)
  have E3 : Dr B w2 w3 := b_3
  have hnew : -9223372036854775808 ≤ s ∧ s ≤ 9223372036854775807 := by omega
  clear hd3
  have hO3 := Dr.blk E3 hO2 b_29
  have hN3 := Dr.blk E3 hN2 b_29
  clear k0 k1 k2 k3 k4 j0 j1 j2 j3 j4
  obtain ⟨k0, k1, k2, k3, k4, j0, j1, j2, j3, j4⟩ := blk5 hN3
  have hzN3 := hN3.lt
  have hO9 := hO3.far (p := ⟨w1.heap.size, 4, none⟩) b_25 (.int .i64 s)
  have hN9 := hN3.set_ 4 (.int .i64 s)
  have C9 := Cur.far hc3 (p := ⟨w1.heap.size, 4, none⟩) b_25 (.int .i64 s)
  have D9 := Dr.set (D2.out.trans E3) (p := ⟨w1.heap.size, 4, none⟩) (.inr b_25) (.int .i64 s)
  have P0 := (p0.dr E3 b_29).set (p := ⟨w1.heap.size, 4, none⟩) (.inr b_25) (.int .i64 s)
  have P1 := (p1.dr E3 b_29).set (p := ⟨w1.heap.size, 4, none⟩) (.inr b_25) (.int .i64 s)
  have P2 := (p2.dr E3 b_29).set (p := ⟨w1.heap.size, 4, none⟩) (.inr b_25) (.int .i64 s)
  have Q9 : RdI tData (w.heap.size + 1) w3.heap.size (w3.setCell ⟨w1.heap.size, 4, none⟩ (.int .i64 s)) [.slice A0 (List.length x.1) c0, .slice A1 (List.length x.2.1) c1, .slice A2 (List.length x.2.2.1) c2, .int .i64 x.2.2.2.1, .int .i64 s] (x.1, x.2.1, x.2.2.1, x.2.2.2.1, s) := RdI.data (x := (x.1, x.2.1, x.2.2.1, x.2.2.2.1, s)) (P0.mono b_29 (by have := P0.1; rw [World.size_setCell] at this; omega) b_17) (P1.mono b_29 (by have := P1.1; rw [World.size_setCell] at this; omega) b_17) (P2.mono b_29 (by have := P2.1; rw [World.size_setCell] at this; omega) b_17) hi3 hnew
  clear P0 P1 P2 p0 p1 p2 hN3 hO3 hc3 E3 hO2 hN2 hc2
  obtain ⟨o0, o1, o2, o3, o4, q0, q1, q2, q3, q4⟩ := blk5 hO9
  have zO9 := hO9.lt
  have zN9 := hN9.lt
  obtain ⟨m0, m1, m2, m3, m4, -⟩ := blk5 hN9
  go_wp2_with fail
  obtain ⟨w9, hw9⟩ : ∃ w9, w9 = ((((((w3.setCell ⟨w1.heap.size, 4, none⟩ (.int .i64 s)).setCell ⟨w.heap.size, 0, none⟩ (.slice A0 (List.length x.1) c0)).setCell ⟨w.heap.size, 1, none⟩ (.slice A1 (List.length x.2.1) c1)).setCell ⟨w.heap.size, 2, none⟩ (.slice A2 (List.length x.2.2.1) c2)).setCell ⟨w.heap.size, 3, none⟩ (.int .i64 x.2.2.2.1)).setCell ⟨w.heap.size, 4, none⟩ (.int .i64 s)) := ⟨_, rfl⟩
  obtain ⟨hP9, hK9, hs9, C10, F10⟩ := stored5 (v0 := .slice A0 (List.length x.1) c0) (v1 := .slice A1 (List.length x.2.1) c1) (v2 := .slice A2 (List.length x.2.2.1) c2) (v3 := .int .i64 x.2.2.2.1) (v4 := .int .i64 s) hO9 (.inl hw9) (B := B) hB C9
  rw [← hw9]
  obtain ⟨o0, o1, o2, o3, o4, -⟩ := blk5 hP9
  have D10 := F10 w (Nat.le_refl _) D9
  refine bodyPost_ret (v := .agg #[.slice A0 (List.length x.1) c0, .slice A1 (List.length x.2.1) c1, .slice A2 (List.length x.2.2.1) c2, .int .i64 x.2.2.2.1, .int .i64 s]) (by simp [results, Try.results92, go_sem, o0, o1, o2, o3, o4]) rfl ?_
  exact ⟨D10, C10, _, (x.1, x.2.1, x.2.2.1, x.2.2.2.1, s), rfl, (RdI.keep (Q9) hs9 (fun q h1 h2 => hK9 q b_29)).mono b_29 (by have := Q9.1; omega) (Nat.le_refl _), hok⟩
 ·go_wp2_with fail
  refine Calls.mono (C_spec_l1Below _ B 3 b_9 b_28 b_28) ?_
  rintro e wa ⟨hda, hca, m, rfl, hm0, hm1⟩
  obtain ⟨m, rfl⟩ : ∃ i : Nat, m = i := ⟨m.toNat, by omega⟩
  have za := hda.size
  (try simp only [szz] at za)
  have Ea : Dr B w2 wa := b_3
  clear hda
  have hv : IntKind.i64.wrap (59 + (m : Int)) = 59 + (m : Int) := IntWalk.i64_in _ b_29
  have hmk : ∀ W : World, (Instr.makeSlice 22 (.int .i64 (59 + (m : Int))) (.int .i64 (59 + (m : Int)))).run Try.prog W = .ok (.slice (some ⟨W.heap.size, 0, none⟩) (59 + m) (59 + m)) (W.alloc (.cells (madeCells #[.int .u8 0] (59 + m)) 5)) := fun W => by
   have := run_make_row' (P := Try.prog) 22 5 (.int .u8 0) 1 Try.underlying22 info_Byte rfl .i64 .i64 (59 + m) b_29 b_29 W
   rw [show ((59 + m : Nat) : Int) = 59 + (m : Int) by omega] at this; exact this
  obtain ⟨w3, hw3⟩ : ∃ w3, w3 = wa.alloc (.cells (madeCells #[.int .u8 0] (59 + m)) 5) := ⟨_, rfl⟩
  have E3 : Dr B w2 w3 := by rw [hw3]; exact Dr.alloc Ea _
  have hc3 : CurT w3 B := by rw [hw3]; exact Cur.alloc hca _
  have z3 : w2.heap.size < w3.heap.size := by rw [hw3, World.size_alloc]; omega
  have hQ3 : RdI (.sl .byte) wa.heap.size w3.heap.size w3 [.slice (some ⟨wa.heap.size, 0, none⟩) (59 + m) (59 + m)] (List.replicate (59 + m) (0 : UInt8)) := by
   rw [hw3, World.size_alloc]; exact rdI_made _ _ _ b_29
  have hlr : List.length (List.replicate (59 + m) (0 : UInt8)) ≤ 61 := by rw [List.length_replicate]; omega
  have hO3 := Dr.blk E3 hO2 b_29
  have hN3 := Dr.blk E3 hN2 b_29
  clear k0 k1 k2 k3 k4 j0 j1 j2 j3 j4
  obtain ⟨k0, k1, k2, k3, k4, j0, j1, j2, j3, j4⟩ := blk5 hN3
  have hzN3 := hN3.lt
  have hO9 := hO3.far (p := ⟨w1.heap.size, 1, none⟩) b_25 (.slice (some ⟨wa.heap.size, 0, none⟩) (59 + m) (59 + m))
  have hN9 := hN3.set_ 1 (.slice (some ⟨wa.heap.size, 0, none⟩) (59 + m) (59 + m))
  have C9 := Cur.far hc3 (p := ⟨w1.heap.size, 1, none⟩) b_25 (.slice (some ⟨wa.heap.size, 0, none⟩) (59 + m) (59 + m))
  have D9 := Dr.set (D2.out.trans E3) (p := ⟨w1.heap.size, 1, none⟩) (.inr b_25) (.slice (some ⟨wa.heap.size, 0, none⟩) (59 + m) (59 + m))
  have P0 := (p0.dr E3 b_29).set (p := ⟨w1.heap.size, 1, none⟩) (.inr b_25) (.slice (some ⟨wa.heap.size, 0, none⟩) (59 + m) (59 + m))
  have P1 := (hQ3).set (p := ⟨w1.heap.size, 1, none⟩) (.inl b_25) (.slice (some ⟨wa.heap.size, 0, none⟩) (59 + m) (59 + m))
  have P2 := (p2.dr E3 b_29).set (p := ⟨w1.heap.size, 1, none⟩) (.inr b_25) (.slice (some ⟨wa.heap.size, 0, none⟩) (59 + m) (59 + m))
  have Q9 : RdI tData (w.heap.size + 1) w3.heap.size (w3.setCell ⟨w1.heap.size, 1, none⟩ (.slice (some ⟨wa.heap.size, 0, none⟩) (59 + m) (59 + m))) [.slice A0 (List.length x.1) c0, .slice (some ⟨wa.heap.size, 0, none⟩) (59 + m) (59 + m), .slice A2 (List.length x.2.2.1) c2, .int .i64 x.2.2.2.1, .int .i64 x.2.2.2.2] (x.1, List.replicate (59 + m) (0 : UInt8), x.2.2) := RdI.data (x := (x.1, List.replicate (59 + m) (0 : UInt8), x.2.2)) (P0.mono b_29 (by have := P0.1; rw [World.size_setCell] at this; omega) b_17) (P1.mono b_29 (by have := P1.1; rw [World.size_setCell] at this; omega) b_17) (P2.mono b_29 (by have := P2.1; rw [World.size_setCell] at this; omega) b_17) hi3 hi4
  clear P0 P1 P2 p0 p1 p2 hN3 hO3 hc3 E3 hO2 hN2 hc2
  subst hw3
  obtain ⟨o0, o1, o2, o3, o4, q0, q1, q2, q3, q4⟩ := blk5 hO9
  have zO9 := hO9.lt
  have zN9 := hN9.lt
  obtain ⟨m0, m1, m2, m3, m4, -⟩ := blk5 hN9
  go_wp2_with fail
  obtain ⟨w9, hw9⟩ : ∃ w9, w9 = (((((((wa.alloc (.cells (madeCells #[.int .u8 0] (59 + m)) 5)).setCell ⟨w1.heap.size, 1, none⟩ (.slice (some ⟨wa.heap.size, 0, none⟩) (59 + m) (59 + m))).setCell ⟨w.heap.size, 0, none⟩ (.slice A0 (List.length x.1) c0)).setCell ⟨w.heap.size, 1, none⟩ (.slice (some ⟨wa.heap.size, 0, none⟩) (59 + m) (59 + m))).setCell ⟨w.heap.size, 2, none⟩ (.slice A2 (List.length x.2.2.1) c2)).setCell ⟨w.heap.size, 3, none⟩ (.int .i64 x.2.2.2.1)).setCell ⟨w.heap.size, 4, none⟩ (.int .i64 x.2.2.2.2)) := ⟨_, rfl⟩
  obtain ⟨hP9, hK9, hs9, C10, F10⟩ := stored5 (v0 := .slice A0 (List.length x.1) c0) (v1 := .slice (some ⟨wa.heap.size, 0, none⟩) (59 + m) (59 + m)) (v2 := .slice A2 (List.length x.2.2.1) c2) (v3 := .int .i64 x.2.2.2.1) (v4 := .int .i64 x.2.2.2.2) hO9 (.inl hw9) (B := B) hB C9
  rw [← hw9]
  obtain ⟨o0, o1, o2, o3, o4, -⟩ := blk5 hP9
  have D10 := F10 w (Nat.le_refl _) D9
  refine bodyPost_ret (v := .agg #[.slice A0 (List.length x.1) c0, .slice (some ⟨wa.heap.size, 0, none⟩) (59 + m) (59 + m), .slice A2 (List.length x.2.2.1) c2, .int .i64 x.2.2.2.1, .int .i64 x.2.2.2.2]) (by simp [results, Try.results92, go_sem, o0, o1, o2, o3, o4]) rfl ?_
  exact ⟨D10, C10, _, (x.1, List.replicate (59 + m) (0 : UInt8), x.2.2), rfl, (RdI.keep (Q9) hs9 (fun q h1 h2 => hK9 q b_29)).mono b_29 (by have := Q9.1; omega) (Nat.le_refl _), ⟨hok.1, hlr, hok.2.2⟩⟩
 ·have q0 : (k == 0) = false := by rw [beq_eq_false_iff_ne]; exact hk.1
  have q1 : (k == 1) = false := by rw [beq_eq_false_iff_ne]; exact hk.2.1
  have q2 : (k == 2) = false := by rw [beq_eq_false_iff_ne]; exact hk.2.2.1
  have q3 : (k == 3) = false := by rw [beq_eq_false_iff_ne]; exact hk.2.2.2.1
  have q4 : (k == 4) = false := by rw [beq_eq_false_iff_ne]; exact hk.2.2.2.2
  have hO9 := hO2
  have hN9 := hN2
  have C9 := hc2
  have D9 := D2.out
  have Q9 : RdI tData (w.heap.size + 1) w1.heap.size w2 [.slice A0 (List.length x.1) c0, .slice A1 (List.length x.2.1) c1, .slice A2 (List.length x.2.2.1) c2, .int .i64 x.2.2.2.1, .int .i64 x.2.2.2.2] x := RdI.data p0 p1 p2 hi3 hi4
  clear k0 k1 k2 k3 k4 j0 j1 j2 j3 j4 hO2 hN2
  obtain ⟨o0, o1, o2, o3, o4, q0, q1, q2, q3, q4⟩ := blk5 hO9
  have zO9 := hO9.lt
  have zN9 := hN9.lt
  obtain ⟨m0, m1, m2, m3, m4, -⟩ := blk5 hN9
  go_wp2_with fail
  obtain ⟨w9, hw9⟩ : ∃ w9, w9 = (((((w2.setCell ⟨w.heap.size, 0, none⟩ (.slice A0 (List.length x.1) c0)).setCell ⟨w.heap.size, 1, none⟩ (.slice A1 (List.length x.2.1) c1)).setCell ⟨w.heap.size, 2, none⟩ (.slice A2 (List.length x.2.2.1) c2)).setCell ⟨w.heap.size, 3, none⟩ (.int .i64 x.2.2.2.1)).setCell ⟨w.heap.size, 4, none⟩ (.int .i64 x.2.2.2.2)) := ⟨_, rfl⟩
  obtain ⟨hP9, hK9, hs9, C10, F10⟩ := stored5 (v0 := .slice A0 (List.length x.1) c0) (v1 := .slice A1 (List.length x.2.1) c1) (v2 := .slice A2 (List.length x.2.2.1) c2) (v3 := .int .i64 x.2.2.2.1) (v4 := .int .i64 x.2.2.2.2) hO9 (.inl hw9) (B := B) hB C9
  rw [← hw9]
  obtain ⟨o0, o1, o2, o3, o4, -⟩ := blk5 hP9
  have D10 := F10 w (Nat.le_refl _) D9
  refine bodyPost_ret (v := .agg #[.slice A0 (List.length x.1) c0, .slice A1 (List.length x.2.1) c1, .slice A2 (List.length x.2.2.1) c2, .int .i64 x.2.2.2.1, .int .i64 x.2.2.2.2]) (by simp [results, Try.results92, go_sem, o0, o1, o2, o3, o4]) rfl ?_
  exact ⟨D10, C10, _, x, rfl, (RdI.keep (Q9) hs9 (fun q h1 h2 => hK9 q b_29)).mono b_29 (by have := Q9.1; omega) (Nat.le_refl _), hok⟩
theorem GRow.at {e : Ty} {lo : Nat} {ex : List Nat} {w : World} {te : TypeId} {A : Option Addr} {n c : Nat} {x : List e.D} (h : GRow e lo ex w te (.slice A n c) x) {k : Nat} (hk : k < x.length) :
  ∃ g ds, A = some ⟨g, 0, none⟩ ∧ ds.length = e.sz ∧ (∀ j, j < e.sz → w.cell? ⟨g, k * e.sz + j, none⟩ = ds[j]?) ∧ (∀ i, w.frozen? ⟨g, i, none⟩ = false) ∧ (lo ≤ g ∧ g < w.heap.size ∧ g ∉ ex) ∧ e.rd w ds x[k] ∧
   (∀ (W : World) (te' : TypeId) (g' c' : Nat), Below w.heap.size w W → Blk W g' te' ds.toArray → ASrc e lo ex W (.slice A n c) (.slice (some ⟨g', 0, none⟩) 1 c') [x[k]]) := by
 have hbl := h.block
 obtain ⟨P, css, h0, h1, h2, h3⟩ := h
 have h1' := h1
 rcases h1.2 with ⟨hv, hn⟩ | ⟨g, cap, cur, hv, hbg, hg, hnc, hcm, hcs, htake⟩
 ·omega
 ·simp only [Value.slice.injEq] at hv
  obtain ⟨rfl, rfl, rfl⟩ := hv
  refine ⟨g, css k, rfl, (h2 k hk).1, fun j hj => ?_, fun i => Blk.frozen (t := te) (cs := cur) hg _, hbl g rfl, (h2 k hk).2 w (fun _ _ => rfl), fun W te' g' c' hb hB => ?_⟩
  ·have h5 : (k + 1) * e.sz ≤ x.length * e.sz := Nat.mul_le_mul_right _ hk
   rw [Nat.succ_mul] at h5
   rw [h1'.cellAt (k * e.sz + j) b_29]
   exact fmr_get css e.sz x.length (fun i hi => (h2 i hi).1) k j hk hj
  ·refine ⟨_, c', P, rfl, fun b hb' => ⟨(h0 b hb').1, Nat.lt_of_lt_of_le (h0 b hb').2.1 hb.size, (h0 b hb').2.2, fun e => (h3 b e).1 hb'⟩, fun _ => ⟨g', 0, rfl, fun i hi => ?_⟩⟩
   obtain rfl : i = 0 := by simpa using hi
   exact ⟨css k, (h2 k hk).1, fun j hj => by rw [Nat.zero_mul, Nat.add_zero, Nat.zero_add]; exact (hB.cell j).trans b_30, fun W' hW' => (h2 k hk).2 W' (fun b hb' => (hW' b hb').trans (hb.block b (h0 b hb').2.1))⟩
theorem GRow.setAt {e : Ty} {lo : Nat} {ex : List Nat} {w : World} {te : TypeId} {g n c : Nat} {x : List e.D} (h : GRow e lo ex w te (.slice (some ⟨g, 0, none⟩) n c) x) {k j : Nat} (hk : k < x.length) (hj : j < e.sz) (u : Value) (d : e.D)
  (hnew : ∀ (W : World) (ds : List Value), e.rd W ds x[k] → e.rd W (ds.set j u) d) : GRow e lo ex (w.setCell ⟨g, k * e.sz + j, none⟩ u) te (.slice (some ⟨g, 0, none⟩) n c) (x.set k d) := by
 obtain ⟨P, css, h0, h1, h2, h3⟩ := h
 rcases h1.2 with ⟨hv, hn⟩ | ⟨g', cap, cur, hv, hbg, hg, hnc, hcm, hcs, htake⟩
 ·omega
 ·simp only [Value.slice.injEq, Option.some.injEq, Addr.mk.injEq, and_true] at hv
  obtain ⟨⟨rfl, _⟩, rfl, rfl⟩ := hv
  have hlt : k * e.sz + j < x.length * e.sz := by
   have h5 : (k + 1) * e.sz ≤ x.length * e.sz := Nat.mul_le_mul_right _ hk
   rw [Nat.succ_mul] at h5; omega
  have hcap : x.length * e.sz ≤ c * e.sz := Nat.mul_le_mul_right _ hnc
  have hfl : ((List.range x.length).flatMap css).length = x.length * e.sz := fmr_len css e.sz x.length (fun i hi => (h2 i hi).1)
  have hcss : (List.range x.length).flatMap (fun i => if i = k then (css k).set j u else css i) = ((List.range x.length).flatMap css).set (k * e.sz + j) u := by
   have hl' : ∀ i, i < x.length → ((fun i => if i = k then (css k).set j u else css i) i).length = e.sz := by
    intro i hi
    by_cases hik : i = k
    ·simp only [hik, if_true, List.length_set]; exact (h2 k hk).1
    ·simp only [if_neg hik]; exact (h2 i hi).1
   have hfl' := fmr_len (fun i => if i = k then (css k).set j u else css i) e.sz x.length hl'
   apply List.ext_getElem?
   intro m
   by_cases hm : m < x.length * e.sz
   ·have hpos := Ty.sz_pos e
    have hdiv : m / e.sz < x.length := (Nat.div_lt_iff_lt_mul hpos).2 hm
    have hmod : m % e.sz < e.sz := Nat.mod_lt _ hpos
    have hmm : m / e.sz * e.sz + m % e.sz = m := by rw [Nat.mul_comm]; exact Nat.div_add_mod m e.sz
    have g1 := fmr_get (fun i => if i = k then (css k).set j u else css i) e.sz x.length hl' _ _ hdiv hmod
    have g2 := fmr_get css e.sz x.length (fun i hi => (h2 i hi).1) _ _ hdiv hmod
    rw [hmm] at g1 g2
    rw [g1, List.getElem?_set]
    by_cases hik : m / e.sz = k
    ·simp only [hik, if_true]
     rw [List.getElem?_set]
     by_cases hmj : j = m % e.sz
     ·have e1 : k * e.sz + j = m := by rw [← hik, hmj]; exact hmm
      rw [if_pos hmj, if_pos e1, if_pos (by rw [(h2 k hk).1]; exact hj), if_pos (by rw [hfl]; exact hlt)]
     ·have e1 : ¬ k * e.sz + j = m := fun e' => hmj (by rw [← hik] at e'; omega)
      rw [if_neg hmj, if_neg e1, g2, hik]
    ·have e1 : ¬ k * e.sz + j = m := by
      intro e'
      apply hik
      rw [← e', Nat.mul_comm, Nat.mul_add_div hpos, Nat.div_eq_of_lt hj, Nat.add_zero]
     simp only [if_neg hik]
     rw [if_neg e1, g2]
   ·rw [List.getElem?_eq_none (by rw [hfl']; omega), List.getElem?_eq_none (by rw [List.length_set, hfl]; omega)]
  refine ⟨P, fun i => if i = k then (css k).set j u else css i, fun b hb => ⟨(h0 b hb).1, by rw [World.size_setCell]; exact (h0 b hb).2.1, (h0 b hb).2.2⟩, ?_, fun i hi => ?_, h3⟩
  ·rw [List.length_set, hcss]
   refine ⟨by rw [List.length_set]; exact h1.1, .inr ⟨g, c, cur.setIfInBounds (k * e.sz + j) u, rfl, hbg, ?_, hnc, hcm, by simpa using hcs, ?_⟩⟩
   ·exact Blk.set_ (t := te) hg (k * e.sz + j) u
   ·rw [Array.toList_setIfInBounds, List.take_set, htake]
  ·have hi' : i < x.length := by rwa [List.length_set] at hi
   by_cases hik : i = k
   ·subst hik
    simp only [if_true, List.length_set]
    refine ⟨(h2 i hi').1, fun W hW => ?_⟩
    rw [List.getElem_set_self]
    refine hnew W _ ((h2 i hi').2 W (fun b hb => (hW b hb).trans (Below.heap_setCell _ _ _ _ (fun e' => (h3 g rfl).1 (by rw [← show b = g from e']; exact hb)))))
   ·simp only [if_neg hik]
    refine ⟨(h2 i hi').1, fun W hW => ?_⟩
    rw [List.getElem_set_ne (Ne.symm hik)]
    exact (h2 i hi').2 W (fun b hb => (hW b hb).trans (Below.heap_setCell _ _ _ _ (fun e' => (h3 g rfl).1 (by rw [← show b = g from e']; exact hb))))
theorem GRow.lit2 {e : Ty} {lo a1 b1 a2 b2 g : Nat} {w : World} {te : TypeId} {ds1 ds2 : List Value} {d1 d2 : e.D} (hb : Blk w g te (ds1 ++ ds2).toArray) (h1 : RdI e a1 b1 w ds1 d1) (h2 : RdI e a2 b2 w ds2 d2) (hg1 : g < a1 ∨ b1 ≤ g) (hg2 : g < a2 ∨ b2 ≤ g) (hlo : lo ≤ g) (hl1 : lo ≤ a1) (hl2 : lo ≤ a2) :
  GRow e lo [] w te (.slice (some ⟨g, 0, none⟩) 2 2) [d1, d2] := by
 refine ⟨fun b => (a1 ≤ b ∧ b < b1) ∨ (a2 ≤ b ∧ b < b2), fun i => if i = 0 then ds1 else ds2, fun b hb' => ⟨by omega, by have := h1.1; have := h2.1; omega, by simp⟩, ?_, fun i hi => ?_, fun q hq => ?_⟩
 ·have := ownsRow_blk (n := 2) (sz := e.sz) (lo := lo) hb hlo (by rw [List.length_append, Ty.rd_len h1.rd, Ty.rd_len h2.rd]; omega) (by unfold maxLen; omega)
  simpa [List.range_succ] using this
 ·have : i = 0 ∨ i = 1 := by simp at hi; omega
  rcases this with rfl | rfl
  ·exact ⟨Ty.rd_len h1.rd, fun W hW => h1.2 W (fun b p q => hW b (.inl ⟨p, q⟩))⟩
  ·exact ⟨Ty.rd_len h2.rd, fun W hW => h2.2 W (fun b p q => hW b (.inr ⟨p, q⟩))⟩
 ·have : g = q := by simpa [Value.ownBlock] using hq
  subst this
  exact ⟨fun h => by omega, by simp⟩
theorem GRow.form2 {e : Ty} {lo : Nat} {ex : List Nat} {w : World} {te : TypeId} {v : Value} {x : List e.D} (h : GRow e lo ex w te v x) : (v = .slice none 0 0 ∧ x = []) ∨ ∃ g c, v = .slice (some ⟨g, 0, none⟩) x.length c ∧ x.length ≤ c := by
 obtain ⟨P, css, _, h, _⟩ := h
 rcases h.2 with ⟨rfl, hn⟩ | ⟨g, cap, cur, rfl, _, _, h1, _⟩
 ·exact .inl ⟨rfl, List.eq_nil_of_length_eq_zero hn⟩
 ·exact .inr ⟨g, _, rfl, h1⟩
theorem rd_takeV {w : World} {e : Ty} {A : Option Addr} {n c : Nat} {x : List e.D} (h : (Ty.sl e).rd w [.slice A n c] x) {k : Nat} (hk : k ≤ x.length) : (Ty.sl e).rd w [.slice A k c] (x.take k) := by
 obtain ⟨A', c', h1, h2, h3, h4, h5⟩ := h
 simp only [List.cons.injEq, Value.slice.injEq, and_true] at h1
 obtain ⟨rfl, h1b, rfl⟩ := h1
 have hl : (x.take k).length = k := by rw [List.length_take]; omega
 refine ⟨A, c, by rw [hl], by rw [hl]; omega, h3, by rw [hl]; omega, fun h0 => ?_⟩
 rw [hl] at h0
 obtain ⟨b, o, hA, hc⟩ := h5 b_29
 refine ⟨b, o, hA, fun i hi => ?_⟩
 rw [hl] at hi
 obtain ⟨ds, g1, g2, g3⟩ := hc i b_29
 exact ⟨ds, g1, g2, by rw [List.getElem_take]; exact g3⟩
theorem RdI.take {e : Ty} {lo hi : Nat} {w : World} {A : Option Addr} {n c : Nat} {x : List e.D} (h : RdI (.sl e) lo hi w [.slice A n c] x) {k : Nat} (hk : k ≤ x.length) : RdI (.sl e) lo hi w [.slice A k c] (x.take k) := ⟨h.1, fun W hW => rd_takeV (h.2 W hW) hk⟩
theorem byte_set {u : Int} (h0 : 0 ≤ u) (h1 : u ≤ 255) {W : World} {ds : List Value} {x : UInt8} (h : Ty.byte.rd W ds x) : Ty.byte.rd W (ds.set 0 (.int .u8 u)) (UInt8.ofNat u.toNat) := by
 obtain ⟨a, rfl⟩ : ∃ a, ds = [a] := List.length_eq_one_iff.1 (Ty.rd_len h)
 refine (flatB.rd W _ _).2 ⟨?_, trivial⟩
 show [Value.int .u8 u] = [Value.int .u8 ((UInt8.ofNat u.toNat).toNat : Int)]
 congr 2
 simp only [UInt8.toNat_ofNat']
 omega
theorem byte_enc {u : Int} (h0 : 0 ≤ u) (h1 : u ≤ 255) : (.int .u8 u : Value) = flatB.enc (UInt8.ofNat u.toNat) := by
 show Value.int .u8 u = Value.int .u8 ((UInt8.ofNat u.toNat).toNat : Int)
 congr 1
 simp only [UInt8.toNat_ofNat']
 omega
theorem mem_bent {s : Int} (h : s ∈ ([0, 1, 128, 255] : List Int)) : 0 ≤ s ∧ s ≤ 255 := by
 simp at h; rcases h with rfl | rfl | rfl | rfl <;> decide
set_option maxRecDepth 100000 in
set_option maxHeartbeats 2000000 in
theorem C_spec_l1Bent (w : World) (B : Nat) (v : Value) (b : List UInt8) (hc : CurT w B) (h : (Ty.sl .byte).rd w [v] b) (hb : b.length ≤ 1000000) :
  Calls Try.prog 117 #[pB B, v] w (RetDT B w (DrV .byte w (fun x => List.length x ≤ List.length b + 1))) := by
 have hB := hc.lt
 obtain ⟨Ab, cb, rfl, hcb, hmb, hnb⟩ := Ty.rd_sl h
 have HL : Hid (GRow .byte w.heap.size [] (w.alloc (.cells #[] 5)) 5 (.slice (some ⟨w.heap.size, 0, none⟩) 0 0) []) := Lib.hid (GRow.ofRow rfl (Row.lit0 flatB w 5 (Nat.le_refl _)))
 go_enter Try.func117, Try.ntmps117
 set_option maxRecDepth 100000 in go_wp2_with (at_builtin; go_loud (refine wpList_append_grow (e := .byte) rfl _ _ 22 rfl w.heap.size [] 5 info_Byte rfl Try.underlying22 (.slice (some ⟨w.heap.size, 0, none⟩) 0 0) (.slice Ab (List.length b) cb) [] b b_31 b_31 HL.out (ASrc.flat rfl (Ty.rd_below (bel_alloc (Below.refl _ _) _) h)) ?_ ?_ ?_ ?_ ?_))
 case refine_1 => intro q hq; simp at hq
 case refine_2 => simp only [List.length_nil]; omega
 case refine_3 => simp only [List.length_nil]; unfold maxLen; omega
 case refine_4 => exact b_21
 intro v' w1 hr' hg'
 have hbl := HL.out.block
 have D1 : Dr B w w1 := Dr.grown ((Dr.refl B w).alloc _) hg' (fun q hq => (hbl q hq).1)
 have C1 : CurT w1 B := Cur.grown (hc.alloc _) hg' (fun q hq => by have := (hbl q hq).1; omega)
 have hr1 : GRow .byte w.heap.size [] w1 5 v' b := hr'
 obtain ⟨A1, c1, rfl⟩ := hr1.form
 have HG1 := Lib.hid hr1
 clear hr' hg' hbl hr1 HL h
 go_wp2_with fail
 refine Calls.mono (C_spec_l1Below _ B 6 b_9 b_28 b_28) ?_
 rintro e w2 ⟨hd2, hc2, k, rfl, hk0, hk1⟩
 have E2 : Dr B w1 w2 := b_3
 have D2 := D1.trans E2
 have HG2 := Lib.hid (HG1.out.dr E2 hB)
 have zD2 := D2.size
 clear hd2 E2 HG1 D1 C1
 rcases (show k = 0 ∨ k = 1 ∨ k = 2 ∨ (k ≠ 0 ∧ k ≠ 1 ∧ k ≠ 2) by omega) with rfl | rfl | rfl | hk
 ·by_cases h0 : 0 < b.length
  ·have i0 : (0 : Int) < (List.length b : Int) := by omega
   go_wp2_with fail
   refine Calls.mono (C_spec_l1Below _ B (List.length b : Int) b_9 b_29 b_29) ?_
   rintro e w3 ⟨hd3, hc3, i, rfl, hi0, hi1⟩
   obtain ⟨m, rfl⟩ : ∃ m : Nat, i = m := ⟨i.toNat, by omega⟩
   have E3 : Dr B w2 w3 := b_3
   go_wp2_with fail
   refine Calls.mono (C_spec_l1Below _ B 256 b_9 b_28 b_28) ?_
   rintro e w4 ⟨hd4, hc4, y, rfl, hy0, hy1⟩
   have E4 : Dr B w3 w4 := b_3
   have D4 := (D2.trans E3).trans E4
   have HG4 := (HG2.out.dr E3 hB).dr E4 hB
   have hwy : IntKind.u8.wrap y = y := IntWalk.u8_in _ b_29
   have hm : m < b.length := by omega
   obtain ⟨g, ds, hA, hdl, hcell, hfr, hgb, -, -⟩ := HG4.at (k := m) hm
   obtain ⟨u, rfl⟩ : ∃ u, ds = [u] := List.length_eq_one_iff.1 hdl
   subst hA
   have e0 : w4.cell? ⟨g, m, none⟩ = some u := by simpa [Ty.sz] using hcell 0 b_28
   have f0 := hfr m
   have i1 : (0 : Int) ≤ (m : Int) := by omega
   have i2 : (m : Int) < (List.length b : Int) := by omega
   have zg : g < w4.heap.size := hgb.2.1
   have HG5 := Lib.hid (HG4.setAt (k := m) (j := 0) hm b_28 (.int .u8 y) (UInt8.ofNat y.toNat) (fun W ds hd => byte_set hy0 b_29 hd))
   have C5 : CurT (w4.setCell ⟨g, m * Ty.byte.sz + 0, none⟩ (.int .u8 y)) B := Cur.far hc4 b_25 _
   have D5 : Dr B w (w4.setCell ⟨g, m * Ty.byte.sz + 0, none⟩ (.int .u8 y)) := Dr.set D4 (.inr b_25) _
   have hl5 : (b.set m (UInt8.ofNat y.toNat)).length = b.length := List.length_set
   simp only [Ty.sz, Nat.mul_one, Nat.add_zero] at C5 D5 HG5
   generalize b.set m (UInt8.ofNat y.toNat) = r at HG5 hl5
   clear hcell hfr hdl hd3 hd4 HG4 HG2 E3 E4 D2
   go_wp2
   go_ret
   exact ⟨D5, C5, some ⟨g, 0, none⟩, r, c1, by rw [hl5]; rfl, by rw [hl5]; exact HG5.out.rdI, by show List.length r ≤ _; omega⟩
  ·obtain rfl : b = [] := List.length_eq_zero_iff.1 b_29
   go_wp2
   go_ret
   exact ⟨D2, hc2, _, [], _, rfl, HG2.out.rdI, by simp⟩
 ·have hw1 : IntKind.i64.wrap ((List.length b : Int) + 1) = (List.length b : Int) + 1 := IntWalk.i64_in _ b_29
  go_wp2_with fail
  refine Calls.mono (C_spec_l1Below _ B ((List.length b : Int) + 1) b_9 b_29 b_29) ?_
  rintro e w3 ⟨hd3, hc3, i, rfl, hi0, hi1⟩
  obtain ⟨m, rfl⟩ : ∃ m : Nat, i = m := ⟨i.toNat, by omega⟩
  have E3 : Dr B w2 w3 := b_3
  have D3 := D2.trans E3
  have HG3 := HG2.out.dr E3 hB
  have i1 : (0 : Int) ≤ (m : Int) := by omega
  have hm : m ≤ b.length := by omega
  clear hw1 hd3 E3 D2 HG2
  rcases HG3.form2 with ⟨hv, rfl⟩ | ⟨g, c, hv, hlc⟩
  ·injection hv with hA _ hc1
   subst hA; subst hc1
   obtain rfl : m = 0 := by simpa using hm
   have HQ := Lib.hid HG3.rdI
   clear HG3
   go_wp2
   go_ret
   exact ⟨D3, hc3, _, [], _, rfl, HQ.out, by simp⟩
  ·injection hv with hA _ hc1
   subst hA; subst hc1
   have hmc : (m : Int) ≤ (c1 : Int) := by omega
   have hmc' : m ≤ c1 := by omega
   have hlt : (List.take m b).length = m := by rw [List.length_take]; omega
   have HQ := Lib.hid (HG3.rdI.take hm)
   have HLT := Lib.hid hlt
   clear HG3 hlt
   go_wp2
   go_ret
   exact ⟨D3, hc3, some ⟨g, 0, none⟩, List.take m b, c1, by rw [HLT.out]; rfl, by rw [HLT.out]; exact HQ.out, by show List.length (List.take m b) ≤ _; rw [HLT.out]; omega⟩
 ·go_wp2_with fail
  refine Calls.mono (C_spec_l1Int _ B _ [0, 1, 128, 255] b_9 b_7 b_28 b_28) ?_
  rintro e w3 ⟨hd3, hc3, y, hs, rfl⟩
  obtain ⟨hy0, hy1⟩ := mem_bent hs
  have E3 : Dr B w2 w3 := b_3
  have D3 := D2.trans E3
  have HG3 := Lib.hid (HG2.out.dr E3 hB)
  have hwy : IntKind.u8.wrap y = y := IntWalk.u8_in _ b_29
  have hbl := HG3.out.block
  have zD3 := D3.size
  have HY : Hid (Row flatB (w3.alloc (.cells #[.int .u8 y] 5)) w.heap.size 5 (.slice (some ⟨w3.heap.size, 0, none⟩) 1 1) [UInt8.ofNat y.toNat]) := by rw [byte_enc hy0 hy1]; exact Row.lit1 flatB w3 5 _ trivial (by have := D3.size; omega)
  clear hd3 hs E3 D2 HG2
  set_option maxRecDepth 100000 in go_wp2_with (at_builtin; go_loud (refine wpList_append_grow (e := .byte) rfl _ _ 22 rfl w.heap.size [] 5 info_Byte rfl Try.underlying22 (.slice A1 (List.length b) c1) _ b [UInt8.ofNat y.toNat] b_31 b_31 (HG3.out.alloc _) (ASrc.flat rfl (HY.out.rd b_21)) ?_ ?_ ?_ ?_ ?_))
  case refine_1 => intro q hq; simp at hq
  case refine_2 => simp only [List.length_singleton]; omega
  case refine_3 => simp only [List.length_singleton]; unfold maxLen; omega
  case refine_4 => exact b_21
  intro v' w' hr' hg'
  have D5 : Dr B w w' := Dr.grown (D3.alloc _) hg' (fun q hq => (hbl q hq).1)
  have C5 : CurT w' B := Cur.grown (hc3.alloc _) hg' (fun q hq => by have := (hbl q hq).1; omega)
  obtain ⟨r, hr⟩ : ∃ r, r = b ++ [UInt8.ofNat y.toNat] := ⟨_, rfl⟩
  have hl5 : List.length r ≤ List.length b + 1 := by rw [hr]; simp
  rw [← hr] at hr'
  clear hr
  obtain ⟨A5, c5, rfl⟩ := hr'.form
  have HR := Lib.hid hr'
  clear hr' hg' hbl
  go_wp2
  go_ret
  exact ⟨D5, C5, _, r, _, rfl, HR.out.rdI, hl5⟩
 ·have q0 : (k == 0) = false := by rw [beq_eq_false_iff_ne]; exact hk.1
  have q1 : (k == 1) = false := by rw [beq_eq_false_iff_ne]; exact hk.2.1
  have q2 : (k == 2) = false := by rw [beq_eq_false_iff_ne]; exact hk.2.2
  go_wp2
  go_ret
  exact ⟨D2, hc2, _, b, _, rfl, HG2.out.rdI, by omega⟩
theorem appendBytes_len (b s : List UInt8) : (f_AppendBytes b s).length ≤ b.length + s.length + 6 := by
 have := appendVarint_len b s.length
 unfold f_AppendBytes; rw [List.length_append]; omega
def f_EncodeData (x : tData.D) : List UInt8 := if f_ValidData x then f_AppendName (f_AppendBytes (f_AppendName [] x.1) x.2.1) x.2.2.1 ++ f_EncodeInts [x.2.2.2.1, x.2.2.2.2] else []
theorem rd_lit2' {w W : World} {te : TypeId} {g : Nat} {n m : Int} (hg : g = w.heap.size) (hn : -9223372036854775808 ≤ n ∧ n ≤ 9223372036854775807) (hm : -9223372036854775808 ≤ m ∧ m ≤ 9223372036854775807) (hb : Below (w.alloc (.cells #[.int .i64 n, .int .i64 m] te)).heap.size (w.alloc (.cells #[.int .i64 n, .int .i64 m] te)) W) :
  (Ty.sl .int).rd W [.slice (some ⟨g, 0, none⟩) 2 2] [n, m] := by
 subst hg; exact Ty.rd_below hb ((Row.lit2 flatI w te n m (okI hn.1 hn.2) (okI hm.1 hm.2) (Nat.le_refl _)).rd b_22)
set_option maxHeartbeats 8000000 in
theorem C_impl_EncodeData (w : World) (cs : List Value) (x : tData.D) (h : tData.rd w cs x) (s0 : Ty.bulk tData x ≤ 1048576) :
  Calls Try.prog 45 #[.agg cs.toArray] w (RetSl w .byte (f_EncodeData x)) := by
 obtain ⟨A0, c0, A1, c1, A2, c2, rfl, g0, g1, g2, b3, b4⟩ := rd_Data h
 have kb0 : (w.alloc (.cells #[.slice A0 (List.length x.1) c0, .slice A1 (List.length x.2.1) c1, .slice A2 (List.length x.2.2.1) c2, .int .i64 x.2.2.2.1, .int .i64 x.2.2.2.2] 46)).cell? ⟨w.heap.size, 0, none⟩ = some (.slice A0 (List.length x.1) c0) := cell_new w _ _ 0 rfl
 have kb1 : (w.alloc (.cells #[.slice A0 (List.length x.1) c0, .slice A1 (List.length x.2.1) c1, .slice A2 (List.length x.2.2.1) c2, .int .i64 x.2.2.2.1, .int .i64 x.2.2.2.2] 46)).cell? ⟨w.heap.size, 1, none⟩ = some (.slice A1 (List.length x.2.1) c1) := cell_new w _ _ 1 rfl
 have kb2 : (w.alloc (.cells #[.slice A0 (List.length x.1) c0, .slice A1 (List.length x.2.1) c1, .slice A2 (List.length x.2.2.1) c2, .int .i64 x.2.2.2.1, .int .i64 x.2.2.2.2] 46)).cell? ⟨w.heap.size, 2, none⟩ = some (.slice A2 (List.length x.2.2.1) c2) := cell_new w _ _ 2 rfl
 have kb3 : (w.alloc (.cells #[.slice A0 (List.length x.1) c0, .slice A1 (List.length x.2.1) c1, .slice A2 (List.length x.2.2.1) c2, .int .i64 x.2.2.2.1, .int .i64 x.2.2.2.2] 46)).cell? ⟨w.heap.size, 3, none⟩ = some (.int .i64 x.2.2.2.1) := cell_new w _ _ 3 rfl
 have kb4 : (w.alloc (.cells #[.slice A0 (List.length x.1) c0, .slice A1 (List.length x.2.1) c1, .slice A2 (List.length x.2.2.1) c2, .int .i64 x.2.2.2.1, .int .i64 x.2.2.2.2] 46)).cell? ⟨w.heap.size, 4, none⟩ = some (.int .i64 x.2.2.2.2) := cell_new w _ _ 4 rfl
 have hvb : Below w.heap.size w (w.alloc (.cells #[.slice A0 (List.length x.1) c0, .slice A1 (List.length x.2.1) c1, .slice A2 (List.length x.2.2.1) c2, .int .i64 x.2.2.2.1, .int .i64 x.2.2.2.2] 46)) := b_5
 have hzb : w.heap.size < (w.alloc (.cells #[.slice A0 (List.length x.1) c0, .slice A1 (List.length x.2.1) c1, .slice A2 (List.length x.2.2.1) c2, .int .i64 x.2.2.2.1, .int .i64 x.2.2.2.2] 46)).heap.size := by rw [World.size_alloc]; omega
 have hcl := content_len s0
 have HF := Lib.hid (show f_EncodeData x = if f_ValidData x then f_AppendName (f_AppendBytes (f_AppendName [] x.1) x.2.1) x.2.2.1 ++ f_EncodeInts [x.2.2.2.1, x.2.2.2.2] else [] from rfl)
 have HL1 := Lib.hid (appendName_len [] x.1)
 have HL2 := Lib.hid (appendBytes_len (f_AppendName [] x.1) x.2.1)
 have HL3 := Lib.hid (appendName_len (f_AppendBytes (f_AppendName [] x.1) x.2.1) x.2.2.1)
 have HL4 := Lib.hid (encodeInts_len [x.2.2.2.1, x.2.2.2.2])
 have HLA : Hid ((f_AppendBytes (f_AppendName [] x.1) x.2.1).length ≤ 1050000 ∧ (f_AppendName (f_AppendBytes (f_AppendName [] x.1) x.2.1) x.2.2.1).length + (f_EncodeInts [x.2.2.2.1, x.2.2.2.2]).length ≤ 1052000) := by
  have h1 := HL1.out; have h2 := HL2.out; have h3 := HL3.out; have h4 := HL4.out
  simp only [List.length_nil, List.length_cons] at h1 h4
  exact ⟨by omega, by omega⟩
 go_enter Try.func45, Try.ntmps45
 go_wp2_with fail
 generalize w.alloc (.cells #[.slice A0 (List.length x.1) c0, .slice A1 (List.length x.2.1) c1, .slice A2 (List.length x.2.2.1) c2, .int .i64 x.2.2.2.1, .int .i64 x.2.2.2.2] 46) = WB at kb0 kb1 kb2 kb3 kb4 hvb hzb ⊢
 have HS : Hid (∀ W, Below WB.heap.size WB W → Below w.heap.size w W ∧ W.cell? ⟨w.heap.size, 0, none⟩ = some (.slice A0 (List.length x.1) c0) ∧ W.cell? ⟨w.heap.size, 1, none⟩ = some (.slice A1 (List.length x.2.1) c1) ∧ W.cell? ⟨w.heap.size, 2, none⟩ = some (.slice A2 (List.length x.2.2.1) c2) ∧ W.cell? ⟨w.heap.size, 3, none⟩ = some (.int .i64 x.2.2.2.1) ∧ W.cell? ⟨w.heap.size, 4, none⟩ = some (.int .i64 x.2.2.2.2)) := fun W hW => ⟨bel_trans hvb hW, (hW.cell (p := ⟨w.heap.size, 0, none⟩) hzb).trans kb0, (hW.cell (p := ⟨w.heap.size, 1, none⟩) hzb).trans kb1, (hW.cell (p := ⟨w.heap.size, 2, none⟩) hzb).trans kb2, (hW.cell (p := ⟨w.heap.size, 3, none⟩) hzb).trans kb3, (hW.cell (p := ⟨w.heap.size, 4, none⟩) hzb).trans kb4⟩
 clear kb0 kb1 kb2 kb3 kb4
 refine (C_impl_ValidData _ _ x (Ty.rd_below hvb h) s0).mono ?_
 rintro e w1 ⟨rfl, hb1⟩
 have hs1 := HS.out _ hb1
 cases q0 : f_ValidData x
 ·rw [q0] at HF
  go_wp2
  go_ret
  rw [HF.out]
  exact RetRow.sl (te := 5) (F := flatB) ⟨_, rfl, Row.nil _ _ _ _, hs1.1⟩
 rw [q0] at HF
 obtain ⟨hw1, k0, k1, k2, k3, k4⟩ := hs1
 go_wp2_with fail
 set_option maxRecDepth 100000 in go_region_held3 (fun W => Below w.heap.size w W ∧ W.cell? ⟨w.heap.size, 0, none⟩ = some (.slice A0 (List.length x.1) c0) ∧ W.cell? ⟨w.heap.size, 1, none⟩ = some (.slice A1 (List.length x.2.1) c1) ∧ W.cell? ⟨w.heap.size, 2, none⟩ = some (.slice A2 (List.length x.2.2.1) c2) ∧ W.cell? ⟨w.heap.size, 3, none⟩ = some (.int .i64 x.2.2.2.1) ∧ W.cell? ⟨w.heap.size, 4, none⟩ = some (.int .i64 x.2.2.2.2)) (first | (exact hz) | (exact HS.out _ b_2))
  (first
   | (go_at_call 114; (with_reducible refine (C_impl_AppendName _ _ [] _ x.1 (rd_empty _ _) (Ty.rd_below b_2 (Ty.rd_below hvb g0)) b_30).mono ?_); rintro e wa ⟨va, rfl, hra, hba⟩; have HBa := Lib.hid (show Below WB.heap.size WB wa from b_2); have HRa := Lib.hid (hra.mono (base' := WB.heap.size) (Below.size (B := WB.heap.size) (w := WB) b_2)); clear hra)
   | (go_at_call 115; (with_reducible refine (C_impl_AppendBytes _ _ _ (f_AppendName [] x.1) x.2.1 (Ty.rd_below b_2 (HRa.out.rd HBa.out.size)) (Ty.rd_below b_2 (Ty.rd_below hvb g1)) (by have := HL1.out; simp only [List.length_nil] at this; omega) b_29).mono ?_); rintro e wb ⟨vb, rfl, hrb, hbb⟩; have HBb := Lib.hid (show Below WB.heap.size WB wb from b_2); have HRb := Lib.hid (hrb.mono (base' := WB.heap.size) (Below.size (B := WB.heap.size) (w := WB) b_2)); clear hrb)
   | (go_at_call 114; (with_reducible refine (C_impl_AppendName _ _ (f_AppendBytes (f_AppendName [] x.1) x.2.1) _ x.2.2.1 (Ty.rd_below b_2 (HRb.out.rd HBb.out.size)) (Ty.rd_below b_2 (Ty.rd_below hvb g2)) (by have := HLA.out.1; omega)).mono ?_); rintro e wc ⟨vc, rfl, hrc, hbc⟩; have HBc := Lib.hid (show Below WB.heap.size WB wc from b_2); have HRc := Lib.hid (hrc.mono (base' := WB.heap.size) (Below.size (B := WB.heap.size) (w := WB) b_2)); clear hrc)
   | fail)
 obtain ⟨hwc, m0, m1, m2, m3, m4⟩ := HS.out wc b_2
 have HZ := Lib.hid ((Row.lit2 flatI wc 3 x.2.2.2.1 x.2.2.2.2 (okI b3.1 b3.2) (okI b4.1 b4.2) (Nat.le_refl _)).rd b_21)
 go_wp2_with fail
 refine (C_impl_EncodeInts _ _ [x.2.2.2.1, x.2.2.2.2] HZ.out b_30).mono ?_
 rintro e we ⟨ve, rfl, hre, hbe⟩
 have HRe := Lib.hid (hre.rd hbe.size)
 clear hre
 have hwe : Below w.heap.size w we := bel_trans hwc (bel_trans b_5 hbe)
 set_option maxRecDepth 100000 in go_wp2_with (at_builtin; go_loud (refine wpList_append_row rfl _ _ 22 rfl flatB WB.heap.size 5 infoB rfl Try.underlying22 _ _ (f_AppendName (f_AppendBytes (f_AppendName [] x.1) x.2.1) x.2.2.1) (f_EncodeInts [x.2.2.2.1, x.2.2.2.2]) rfl rfl (HRc.out.below (bel_trans (bel_alloc (Below.refl _ _) _) hbe)) HRe.out ?_ ?_ ?_ ?_))
 case refine_1 => have := HLA.out.2; omega
 case refine_2 => have := HLA.out.2; unfold maxLen; omega
 case refine_3 => exact Nat.le_trans HBc.out.size (Nat.le_trans b_22 hbe.size)
 intro v' w' hr' hg'
 have hb' : Below w.heap.size w w' := bel_grown hwe hwe.size hg' (fun g hg => by have := (HRc.out.block _ hg).1; omega)
 have HR' := Lib.hid hr'
 clear hr'
 go_wp2
 go_ret
 rw [HF.out]
 exact RetRow.sl ⟨_, rfl, HR'.out.mono b_29, hb'⟩
set_option maxHeartbeats 8000000 in
theorem C_spec_EncodeData (w : World) (cs : List Value) (x : tData.D) (h : tData.rd w cs x) (s0 : Ty.bulk tData x ≤ 1048576) :
  Calls Try.prog 54 #[.agg cs.toArray] w (RetSl w .byte (f_EncodeData x)) := by
 obtain ⟨A0, c0, A1, c1, A2, c2, rfl, g0, g1, g2, b3, b4⟩ := rd_Data h
 have kb0 : (w.alloc (.cells #[.slice A0 (List.length x.1) c0, .slice A1 (List.length x.2.1) c1, .slice A2 (List.length x.2.2.1) c2, .int .i64 x.2.2.2.1, .int .i64 x.2.2.2.2] 46)).cell? ⟨w.heap.size, 0, none⟩ = some (.slice A0 (List.length x.1) c0) := cell_new w _ _ 0 rfl
 have kb1 : (w.alloc (.cells #[.slice A0 (List.length x.1) c0, .slice A1 (List.length x.2.1) c1, .slice A2 (List.length x.2.2.1) c2, .int .i64 x.2.2.2.1, .int .i64 x.2.2.2.2] 46)).cell? ⟨w.heap.size, 1, none⟩ = some (.slice A1 (List.length x.2.1) c1) := cell_new w _ _ 1 rfl
 have kb2 : (w.alloc (.cells #[.slice A0 (List.length x.1) c0, .slice A1 (List.length x.2.1) c1, .slice A2 (List.length x.2.2.1) c2, .int .i64 x.2.2.2.1, .int .i64 x.2.2.2.2] 46)).cell? ⟨w.heap.size, 2, none⟩ = some (.slice A2 (List.length x.2.2.1) c2) := cell_new w _ _ 2 rfl
 have kb3 : (w.alloc (.cells #[.slice A0 (List.length x.1) c0, .slice A1 (List.length x.2.1) c1, .slice A2 (List.length x.2.2.1) c2, .int .i64 x.2.2.2.1, .int .i64 x.2.2.2.2] 46)).cell? ⟨w.heap.size, 3, none⟩ = some (.int .i64 x.2.2.2.1) := cell_new w _ _ 3 rfl
 have kb4 : (w.alloc (.cells #[.slice A0 (List.length x.1) c0, .slice A1 (List.length x.2.1) c1, .slice A2 (List.length x.2.2.1) c2, .int .i64 x.2.2.2.1, .int .i64 x.2.2.2.2] 46)).cell? ⟨w.heap.size, 4, none⟩ = some (.int .i64 x.2.2.2.2) := cell_new w _ _ 4 rfl
 have hvb : Below w.heap.size w (w.alloc (.cells #[.slice A0 (List.length x.1) c0, .slice A1 (List.length x.2.1) c1, .slice A2 (List.length x.2.2.1) c2, .int .i64 x.2.2.2.1, .int .i64 x.2.2.2.2] 46)) := b_5
 have hzb : w.heap.size < (w.alloc (.cells #[.slice A0 (List.length x.1) c0, .slice A1 (List.length x.2.1) c1, .slice A2 (List.length x.2.2.1) c2, .int .i64 x.2.2.2.1, .int .i64 x.2.2.2.2] 46)).heap.size := by rw [World.size_alloc]; omega
 have hcl := content_len s0
 have HF := Lib.hid (show f_EncodeData x = if f_ValidData x then f_AppendName (f_AppendBytes (f_AppendName [] x.1) x.2.1) x.2.2.1 ++ f_EncodeInts [x.2.2.2.1, x.2.2.2.2] else [] from rfl)
 have HL1 := Lib.hid (appendName_len [] x.1)
 have HL2 := Lib.hid (appendBytes_len (f_AppendName [] x.1) x.2.1)
 have HL3 := Lib.hid (appendName_len (f_AppendBytes (f_AppendName [] x.1) x.2.1) x.2.2.1)
 have HL4 := Lib.hid (encodeInts_len [x.2.2.2.1, x.2.2.2.2])
 have HLA : Hid ((f_AppendBytes (f_AppendName [] x.1) x.2.1).length ≤ 1050000 ∧ (f_AppendName (f_AppendBytes (f_AppendName [] x.1) x.2.1) x.2.2.1).length + (f_EncodeInts [x.2.2.2.1, x.2.2.2.2]).length ≤ 1052000) := by
  have h1 := HL1.out; have h2 := HL2.out; have h3 := HL3.out; have h4 := HL4.out
  simp only [List.length_nil, List.length_cons] at h1 h4
  exact ⟨by omega, by omega⟩
 go_enter Try.func54, Try.ntmps54
 go_wp2_with fail
 generalize w.alloc (.cells #[.slice A0 (List.length x.1) c0, .slice A1 (List.length x.2.1) c1, .slice A2 (List.length x.2.2.1) c2, .int .i64 x.2.2.2.1, .int .i64 x.2.2.2.2] 46) = WB at kb0 kb1 kb2 kb3 kb4 hvb hzb ⊢
 have HS : Hid (∀ W, Below WB.heap.size WB W → Below w.heap.size w W ∧ W.cell? ⟨w.heap.size, 0, none⟩ = some (.slice A0 (List.length x.1) c0) ∧ W.cell? ⟨w.heap.size, 1, none⟩ = some (.slice A1 (List.length x.2.1) c1) ∧ W.cell? ⟨w.heap.size, 2, none⟩ = some (.slice A2 (List.length x.2.2.1) c2) ∧ W.cell? ⟨w.heap.size, 3, none⟩ = some (.int .i64 x.2.2.2.1) ∧ W.cell? ⟨w.heap.size, 4, none⟩ = some (.int .i64 x.2.2.2.2)) := fun W hW => ⟨bel_trans hvb hW, (hW.cell (p := ⟨w.heap.size, 0, none⟩) hzb).trans kb0, (hW.cell (p := ⟨w.heap.size, 1, none⟩) hzb).trans kb1, (hW.cell (p := ⟨w.heap.size, 2, none⟩) hzb).trans kb2, (hW.cell (p := ⟨w.heap.size, 3, none⟩) hzb).trans kb3, (hW.cell (p := ⟨w.heap.size, 4, none⟩) hzb).trans kb4⟩
 clear kb0 kb1 kb2 kb3 kb4
 refine (C_spec_ValidData _ _ x (Ty.rd_below hvb h) s0).mono ?_
 rintro e w1 ⟨rfl, hb1⟩
 have hs1 := HS.out _ hb1
 cases q0 : f_ValidData x
 ·rw [q0] at HF
  go_wp2
  go_ret
  rw [HF.out]
  exact RetRow.sl (te := 5) (F := flatB) ⟨_, rfl, Row.lit0 flatB w1 5 hs1.1.size, b_2⟩
 rw [q0] at HF
 obtain ⟨hw1, k0, k1, k2, k3, k4⟩ := hs1
 go_wp2_with fail
 set_option maxRecDepth 100000 in go_region_held3 (fun W => Below w.heap.size w W ∧ W.cell? ⟨w.heap.size, 0, none⟩ = some (.slice A0 (List.length x.1) c0) ∧ W.cell? ⟨w.heap.size, 1, none⟩ = some (.slice A1 (List.length x.2.1) c1) ∧ W.cell? ⟨w.heap.size, 2, none⟩ = some (.slice A2 (List.length x.2.2.1) c2) ∧ W.cell? ⟨w.heap.size, 3, none⟩ = some (.int .i64 x.2.2.2.1) ∧ W.cell? ⟨w.heap.size, 4, none⟩ = some (.int .i64 x.2.2.2.2)) (first | (exact hz) | (exact HS.out _ b_2))
  (first
   | (go_at_call 128; (with_reducible refine (C_spec_AppendName _ _ [] _ x.1 (rd_empty _ _) (Ty.rd_below b_2 (Ty.rd_below hvb g0)) b_30).mono ?_); rintro e wa ⟨va, rfl, hra, hba⟩; have HBa := Lib.hid (show Below WB.heap.size WB wa from b_2); have HRa := Lib.hid (hra.mono (base' := WB.heap.size) (Below.size (B := WB.heap.size) (w := WB) b_2)); clear hra)
   | (go_at_call 127; (with_reducible refine (C_spec_AppendBytes _ _ _ (f_AppendName [] x.1) x.2.1 (Ty.rd_below b_2 (HRa.out.rd HBa.out.size)) (Ty.rd_below b_2 (Ty.rd_below hvb g1)) (by have := HL1.out; simp only [List.length_nil] at this; omega) b_29).mono ?_); rintro e wb ⟨vb, rfl, hrb, hbb⟩; have HBb := Lib.hid (show Below WB.heap.size WB wb from b_2); have HRb := Lib.hid (hrb.mono (base' := WB.heap.size) (Below.size (B := WB.heap.size) (w := WB) b_2)); clear hrb)
   | fail)
 go_wp2_with fail
 set_option maxRecDepth 100000 in go_region_held3 (fun W => Below w.heap.size w W ∧ W.cell? ⟨w.heap.size, 0, none⟩ = some (.slice A0 (List.length x.1) c0) ∧ W.cell? ⟨w.heap.size, 1, none⟩ = some (.slice A1 (List.length x.2.1) c1) ∧ W.cell? ⟨w.heap.size, 2, none⟩ = some (.slice A2 (List.length x.2.2.1) c2) ∧ W.cell? ⟨w.heap.size, 3, none⟩ = some (.int .i64 x.2.2.2.1) ∧ W.cell? ⟨w.heap.size, 4, none⟩ = some (.int .i64 x.2.2.2.2)) (first | (exact hz) | (exact HS.out _ b_2))
  (first
   | (go_at_call 128; (with_reducible refine (C_spec_AppendName _ _ (f_AppendBytes (f_AppendName [] x.1) x.2.1) _ x.2.2.1 (Ty.rd_below b_2 (HRb.out.rd HBb.out.size)) (Ty.rd_below b_2 (Ty.rd_below hvb g2)) (by have := HLA.out.1; omega)).mono ?_); rintro e wc ⟨vc, rfl, hrc, hbc⟩; have HBc := Lib.hid (show Below WB.heap.size WB wc from b_2); have HRc := Lib.hid (hrc.mono (base' := WB.heap.size) (Below.size (B := WB.heap.size) (w := WB) b_2)); clear hrc)
   | (go_at_call 129; (with_reducible refine (C_spec_EncodeInts _ _ [x.2.2.2.1, x.2.2.2.2] (by first | (refine rd_lit2' (w := wc) (te := 3) ?_ b3 b4 ?_; (focus (first | rfl | (simp only [World.size_alloc, World.size_drew]; fail_if_success skip))); ((repeat' (first | (with_reducible exact Below.refl _ _) | (with_reducible assumption) | (with_reducible refine bel_set ?_ b_24 _) | (with_reducible refine bel_alloc ?_ _) | (with_reducible refine bel_drewN ?_ _) | (with_reducible refine bel_drew ?_) | (with_reducible refine bel_trans ?_ b_26))); done)) | (refine rd_lit2' (w := wb) (te := 3) ?_ b3 b4 ?_; (focus (first | rfl | (simp only [World.size_alloc, World.size_drew]; fail_if_success skip))); ((repeat' (first | (with_reducible exact Below.refl _ _) | (with_reducible assumption) | (with_reducible refine bel_set ?_ b_24 _) | (with_reducible refine bel_alloc ?_ _) | (with_reducible refine bel_drewN ?_ _) | (with_reducible refine bel_drew ?_) | (with_reducible refine bel_trans ?_ b_26))); done)) | fail) b_30).mono ?_); rintro e we ⟨ve, rfl, hre, hbe⟩; have HBe := Lib.hid (show Below WB.heap.size WB we from b_2); have HRe := Lib.hid (hre.mono (base' := WB.heap.size) (Below.size (B := WB.heap.size) (w := WB) b_2)); clear hre)
   | ((refine step_append_row b_31 _ _ 22 b_31 flatB WB.heap.size 5 infoB rfl Try.underlying22 _ _ (f_AppendName (f_AppendBytes (f_AppendName [] x.1) x.2.1) x.2.2.1) (f_EncodeInts [x.2.2.2.1, x.2.2.2.2]) b_31 b_31 (HRc.out.below b_2) (Ty.rd_below b_2 (HRe.out.rd HBe.out.size)) (by have := HLA.out.2; omega) (by have := HLA.out.2; unfold maxLen; omega) (Below.size (B := WB.heap.size) (w := WB) b_2) ?_); intro v' w' hr' hg'; have hne : some w.heap.size ≠ vc.ownBlock := fun e => (by have := (HRc.out.block _ e.symm).1; omega); have hz : Below w.heap.size w w' ∧ w'.cell? ⟨w.heap.size, 0, none⟩ = some (.slice A0 (List.length x.1) c0) ∧ w'.cell? ⟨w.heap.size, 1, none⟩ = some (.slice A1 (List.length x.2.1) c1) ∧ w'.cell? ⟨w.heap.size, 2, none⟩ = some (.slice A2 (List.length x.2.2.1) c2) ∧ w'.cell? ⟨w.heap.size, 3, none⟩ = some (.int .i64 x.2.2.2.1) ∧ w'.cell? ⟨w.heap.size, 4, none⟩ = some (.int .i64 x.2.2.2.2) := ⟨bel_grown (B := w.heap.size) b_2 (Below.size (B := w.heap.size) (w := w) b_2) hg' (fun g hg => (by have := (HRc.out.block _ hg).1; omega)), hg'.cell (HS.out _ b_2).2.1 hne, hg'.cell (HS.out _ b_2).2.2.1 hne, hg'.cell (HS.out _ b_2).2.2.2.1 hne, hg'.cell (HS.out _ b_2).2.2.2.2.1 hne, hg'.cell (HS.out _ b_2).2.2.2.2.2 hne⟩)
   | fail)
 all_goals (have HR' := Lib.hid hr')
 all_goals (clear hr')
 all_goals go_wp2
 all_goals go_ret
 all_goals rw [HF.out]
 all_goals exact RetRow.sl ⟨_, rfl, HR'.out.mono b_29, hz.1⟩
end Go.Proofs.Ytldgbnlcnlfmeaa
