/- Texts of this claim, merged by a program: Tha Stg Xdk Bnt. -/
import Derived.Test.YtldgbnlcnlfmeaaQcP
import Derived.Test.YtldgbnlcnlfmeaaQc13
import Derived.Deep.OwnRows
import Derived.Test.YtldgbnlcnlfmeaaQc1
import Derived.Test.YtldgbnlcnlfmeaaQc8
import Derived.Test.YtldgbnlcnlfmeaaQc6
import Derived.Test.YtldgbnlcnlfmeaaQc10
import Derived.Test.YtldgbnlcnlfmeaaQc11
import Derived.Deep.RegionHeld3
namespace Go.Proofs.Ytldgbnlcnlfmeaa
open Go.RowKit
set_option linter.unusedVariables false
set_option linter.unusedSimpArgs false
theorem mem_word {l : List Int} {s : Int} (h : s ∈ l) (hl : l.all (fun s => decide (-1 ≤ s ∧ s ≤ 2147483648)) = true) : -1 ≤ s ∧ s ≤ 2147483648 := by
 have := List.all_eq_true.1 hl s h; simpa only [decide_eq_true_eq] using this
theorem mul_word {x y : Int} (h0 : 0 ≤ x) (h1 : x ≤ 999999) (h2 : 0 ≤ y) (h3 : y ≤ 1999) : 0 ≤ x * y ∧ x * y ≤ 2147483648 := by
 refine ⟨Int.mul_nonneg h0 h2, ?_⟩
 have := Int.mul_le_mul h1 h3 h2 b_33
 omega
set_option maxRecDepth 100000 in
set_option maxHeartbeats 2000000 in
theorem C_spec_l3Word (w : World) (B : Nat) (hc : CurT w B) : Calls Try.prog 125 #[pB B] w (RetDT B w (DrI (-1) 2147483648)) := by
 have hB := hc.lt
 go_enter Try.func125, Try.ntmps125
 go_wp2_with fail
 refine Calls.mono (C_spec_l1Once _ B 10 b_9 b_33 b_33) ?_
 rintro e w1 ⟨hd1, hc1, yes, rfl⟩
 have E1 : Dr B w w1 := b_3
 have z1 := E1.size
 cases yes with
 | true =>
  go_wp2_with fail
  refine Calls.mono (C_spec_l1Int _ B _ [-1, 2147483647, 2147483648] b_9 b_8 b_33 b_33) ?_
  rintro e w2 ⟨hd2, hc2, s, hs, rfl⟩
  have hw := mem_word hs b_33
  have E2 : Dr B w w2 := b_3
  go_wp2
  go_ret
  exact ⟨E2, hc2, _, rfl, hw.1, hw.2⟩
 | false =>
  go_wp2_with fail
  refine Calls.mono (C_spec_l1Once _ B 4 b_9 b_33 b_33) ?_
  rintro e w2 ⟨hd2, hc2, yes, rfl⟩
  have E2 : Dr B w w2 := b_3
  have z2 := E2.size
  cases yes with
  | true =>
   go_wp2_with fail
   refine Calls.mono (C_spec_l1Int _ B _ [0, 1, 2147483646] b_9 b_8 b_33 b_33) ?_
   rintro e w3 ⟨hd3, hc3, s, hs, rfl⟩
   have hw := mem_word hs b_33
   have E3 : Dr B w w3 := b_3
   go_wp2
   go_ret
   exact ⟨E3, hc3, _, rfl, hw.1, hw.2⟩
  | false =>
   go_wp2_with fail
   refine Calls.mono (C_spec_l1Below _ B 1000000 b_9 b_33 b_33) ?_
   rintro e w3 ⟨hd3, hc3, x, rfl, hx0, hx1⟩
   have E3 : Dr B w w3 := b_3
   go_wp2_with fail
   refine Calls.mono (C_spec_l1Below _ B 2000 b_9 b_33 b_33) ?_
   rintro e w4 ⟨hd4, hc4, y, rfl, hy0, hy1⟩
   have E4 : Dr B w w4 := b_3
   have hm := mul_word hx0 (show x ≤ 999999 by omega) hy0 (show y ≤ 1999 by omega)
   have hv : IntKind.i64.wrap (x * y) = x * y := IntWalk.i64_in _ b_34
   go_wp2
   go_ret
   exact ⟨E4, hc4, _, rfl, by omega, by omega⟩
theorem rdI_made (w : World) (te : TypeId) (n : Nat) (hn : n ≤ 1000) : RdI (.sl .byte) w.heap.size (w.heap.size + 1) (w.alloc (.cells (madeCells #[.int .u8 0] n) te)) [.slice (some ⟨w.heap.size, 0, none⟩) n n] (List.replicate n (0 : UInt8)) := by
 have he : madeCells #[.int .u8 0] n = ((List.replicate n (0 : UInt8)).map flatB.enc).toArray := by
  rw [← Array.toList_inj, toList_madeCells_one, List.map_replicate]; rfl
 have hb : Blk (w.alloc (.cells (madeCells #[.int .u8 0] n) te)) w.heap.size te ((List.replicate n (0 : UInt8)).map flatB.enc).toArray := by rw [he]; exact Blk.new _ _ _
 have hr : Row flatB (w.alloc (.cells (madeCells #[.int .u8 0] n) te)) w.heap.size te (.slice (some ⟨w.heap.size, 0, none⟩) n n) (List.replicate n (0 : UInt8)) := by
  refine ⟨?_, fun _ _ => trivial⟩
  rw [List.length_replicate]
  exact ownsRow_blk hb (Nat.le_refl _) (by simp) (by unfold maxLen; omega)
 have h := (GRow.ofRow rfl hr).rdI
 rw [World.size_alloc] at h
 exact h
set_option maxRecDepth 100000 in
set_option maxHeartbeats 4000000 in
theorem C_spec_l8Any (w : World) (B : Nat) (hc : CurT w B) :
  Calls Try.prog 92 #[pB B] w (RetDT B w (DrR tData w okThing)) := by
 have hB := hc.lt
 go_enter Try.func92, Try.ntmps92
 go_wp2_with fail
 refine Calls.mono (C_spec_l8Draw _ B b_9) ?_
 rintro e w1 ⟨hd1, hc1, cs, x, rfl, hQ, hok⟩
 obtain ⟨A0, c0, A1, c1, A2, c2, rfl, -, -, -, hi3, hi4⟩ := rd_Data hQ.rd
 have z1 := hd1.size
 simp only [World.size_alloc] at z1
 have D1 : Dr B w w1 := b_3
 have hO1 : Blk w1 w.heap.size 46 #[.slice none 0 0, .slice none 0 0, .slice none 0 0, .int .i64 0, .int .i64 0] := Dr.blk hd1 (Blk.new w _ _) b_34
 rw [World.size_alloc] at hQ
 clear hd1
 go_wp2_with fail
 refine Calls.mono (C_spec_l1Below _ B 12 b_9 b_33 b_33) ?_
 rintro e w2 ⟨hd2, hc2, k, rfl, hk0, hk1⟩
 have z2 := hd2.size
 simp only [World.size_alloc] at z2
 have E2 : Dr B w1 w2 := b_3
 have D2 := Lib.hid (D1.trans E2)
 have hO2 := Dr.blk E2 hO1 b_34
 have hN2 : Blk w2 w1.heap.size 46 #[.slice A0 (List.length x.1) c0, .slice A1 (List.length x.2.1) c1, .slice A2 (List.length x.2.2.1) c2, .int .i64 x.2.2.2.1, .int .i64 x.2.2.2.2] := Dr.blk hd2 (Blk.new w1 _ _) b_34
 obtain ⟨p0, p1, p2⟩ := RdI.dataP (hQ.dr E2 b_34)
 have hzN := hN2.lt
 clear hd2 hO1 E2 D1 hc1 hQ
 obtain ⟨k0, k1, k2, k3, k4, j0, j1, j2, j3, j4⟩ := blk5 hN2
 have hcase : k = 0 ∨ k = 1 ∨ k = 2 ∨ k = 3 ∨ k = 4 ∨ (k ≠ 0 ∧ k ≠ 1 ∧ k ≠ 2 ∧ k ≠ 3 ∧ k ≠ 4) := by omega
 rcases hcase with rfl | rfl | rfl | rfl | rfl | hk
 ·go_wp2_with fail
  refine Calls.mono (C_spec_l4Any _ B b_9) ?_
  rintro e w3 ⟨hd3, hc3, cs3, n3, rfl, hQ3, hok3⟩
  obtain ⟨A3, c3, rfl⟩ := Ty.rd_slv hQ3.rd
  have z3 := hd3.size
  (try simp only [szz] at z3)
  have E3 : Dr B w2 w3 := b_3
  (try simp only [szz] at hQ3)
  clear hd3
  have hO3 := Dr.blk E3 hO2 b_34
  have hN3 := Dr.blk E3 hN2 b_34
  clear k0 k1 k2 k3 k4 j0 j1 j2 j3 j4
  obtain ⟨k0, k1, k2, k3, k4, j0, j1, j2, j3, j4⟩ := blk5 hN3
  have hzN3 := hN3.lt
  have hO9 := hO3.far (p := ⟨w1.heap.size, 0, none⟩) b_30 (.slice A3 (List.length n3) c3)
  have hN9 := hN3.set_ 0 (.slice A3 (List.length n3) c3)
  have C9 := Cur.far hc3 (p := ⟨w1.heap.size, 0, none⟩) b_30 (.slice A3 (List.length n3) c3)
  have D9 := Dr.set (D2.out.trans E3) (p := ⟨w1.heap.size, 0, none⟩) (.inr b_30) (.slice A3 (List.length n3) c3)
  have P0 := (hQ3).set (p := ⟨w1.heap.size, 0, none⟩) (.inl b_30) (.slice A3 (List.length n3) c3)
  have P1 := (p1.dr E3 b_34).set (p := ⟨w1.heap.size, 0, none⟩) (.inr b_30) (.slice A3 (List.length n3) c3)
  have P2 := (p2.dr E3 b_34).set (p := ⟨w1.heap.size, 0, none⟩) (.inr b_30) (.slice A3 (List.length n3) c3)
  have Q9 : RdI tData (w.heap.size + 1) w3.heap.size (w3.setCell ⟨w1.heap.size, 0, none⟩ (.slice A3 (List.length n3) c3)) [.slice A3 (List.length n3) c3, .slice A1 (List.length x.2.1) c1, .slice A2 (List.length x.2.2.1) c2, .int .i64 x.2.2.2.1, .int .i64 x.2.2.2.2] (n3, x.2) := RdI.data (x := (n3, x.2)) (P0.mono b_34 (by have := P0.1; rw [World.size_setCell] at this; omega) b_22) (P1.mono b_34 (by have := P1.1; rw [World.size_setCell] at this; omega) b_22) (P2.mono b_34 (by have := P2.1; rw [World.size_setCell] at this; omega) b_22) hi3 hi4
  clear P0 P1 P2 p0 p1 p2 hN3 hO3 hc3 E3 hO2 hN2 hc2
  obtain ⟨o0, o1, o2, o3, o4, q0, q1, q2, q3, q4⟩ := blk5 hO9
  have zO9 := hO9.lt
  have zN9 := hN9.lt
  obtain ⟨m0, m1, m2, m3, m4, -⟩ := blk5 hN9
  go_wp2_with fail
  obtain ⟨w9, hw9⟩ : ∃ w9, w9 = ((((((w3.setCell ⟨w1.heap.size, 0, none⟩ (.slice A3 (List.length n3) c3)).setCell ⟨w.heap.size, 0, none⟩ (.slice A3 (List.length n3) c3)).setCell ⟨w.heap.size, 1, none⟩ (.slice A1 (List.length x.2.1) c1)).setCell ⟨w.heap.size, 2, none⟩ (.slice A2 (List.length x.2.2.1) c2)).setCell ⟨w.heap.size, 3, none⟩ (.int .i64 x.2.2.2.1)).setCell ⟨w.heap.size, 4, none⟩ (.int .i64 x.2.2.2.2)) := ⟨_, rfl⟩
  obtain ⟨hP9, hK9, hs9, C10, F10⟩ := stored5 (v0 := .slice A3 (List.length n3) c3) (v1 := .slice A1 (List.length x.2.1) c1) (v2 := .slice A2 (List.length x.2.2.1) c2) (v3 := .int .i64 x.2.2.2.1) (v4 := .int .i64 x.2.2.2.2) hO9 (.inl hw9) (B := B) hB C9
  rw [← hw9]
  obtain ⟨o0, o1, o2, o3, o4, -⟩ := blk5 hP9
  have D10 := F10 w (Nat.le_refl _) D9
  refine bodyPost_ret (v := .agg #[.slice A3 (List.length n3) c3, .slice A1 (List.length x.2.1) c1, .slice A2 (List.length x.2.2.1) c2, .int .i64 x.2.2.2.1, .int .i64 x.2.2.2.2]) (by simp [results, Try.results92, go_sem, o0, o1, o2, o3, o4]) rfl ?_
  exact ⟨D10, C10, _, (n3, x.2), rfl, (RdI.keep (Q9) hs9 (fun q h1 h2 => hK9 q b_34)).mono b_34 (by have := Q9.1; omega) (Nat.le_refl _), ⟨hok3, hok.2⟩⟩
 ·go_wp2_with fail
  refine Calls.mono (C_spec_l4Any _ B b_9) ?_
  rintro e w3 ⟨hd3, hc3, cs3, n3, rfl, hQ3, hok3⟩
  obtain ⟨A3, c3, rfl⟩ := Ty.rd_slv hQ3.rd
  have z3 := hd3.size
  (try simp only [szz] at z3)
  have E3 : Dr B w2 w3 := b_3
  (try simp only [szz] at hQ3)
  clear hd3
  have hO3 := Dr.blk E3 hO2 b_34
  have hN3 := Dr.blk E3 hN2 b_34
  clear k0 k1 k2 k3 k4 j0 j1 j2 j3 j4
  obtain ⟨k0, k1, k2, k3, k4, j0, j1, j2, j3, j4⟩ := blk5 hN3
  have hzN3 := hN3.lt
  have hO9 := hO3.far (p := ⟨w1.heap.size, 2, none⟩) b_30 (.slice A3 (List.length n3) c3)
  have hN9 := hN3.set_ 2 (.slice A3 (List.length n3) c3)
  have C9 := Cur.far hc3 (p := ⟨w1.heap.size, 2, none⟩) b_30 (.slice A3 (List.length n3) c3)
  have D9 := Dr.set (D2.out.trans E3) (p := ⟨w1.heap.size, 2, none⟩) (.inr b_30) (.slice A3 (List.length n3) c3)
  have P0 := (p0.dr E3 b_34).set (p := ⟨w1.heap.size, 2, none⟩) (.inr b_30) (.slice A3 (List.length n3) c3)
  have P1 := (p1.dr E3 b_34).set (p := ⟨w1.heap.size, 2, none⟩) (.inr b_30) (.slice A3 (List.length n3) c3)
  have P2 := (hQ3).set (p := ⟨w1.heap.size, 2, none⟩) (.inl b_30) (.slice A3 (List.length n3) c3)
  have Q9 : RdI tData (w.heap.size + 1) w3.heap.size (w3.setCell ⟨w1.heap.size, 2, none⟩ (.slice A3 (List.length n3) c3)) [.slice A0 (List.length x.1) c0, .slice A1 (List.length x.2.1) c1, .slice A3 (List.length n3) c3, .int .i64 x.2.2.2.1, .int .i64 x.2.2.2.2] (x.1, x.2.1, n3, x.2.2.2) := RdI.data (x := (x.1, x.2.1, n3, x.2.2.2)) (P0.mono b_34 (by have := P0.1; rw [World.size_setCell] at this; omega) b_22) (P1.mono b_34 (by have := P1.1; rw [World.size_setCell] at this; omega) b_22) (P2.mono b_34 (by have := P2.1; rw [World.size_setCell] at this; omega) b_22) hi3 hi4
  clear P0 P1 P2 p0 p1 p2 hN3 hO3 hc3 E3 hO2 hN2 hc2
  obtain ⟨o0, o1, o2, o3, o4, q0, q1, q2, q3, q4⟩ := blk5 hO9
  have zO9 := hO9.lt
  have zN9 := hN9.lt
  obtain ⟨m0, m1, m2, m3, m4, -⟩ := blk5 hN9
  go_wp2_with fail
  obtain ⟨w9, hw9⟩ : ∃ w9, w9 = ((((((w3.setCell ⟨w1.heap.size, 2, none⟩ (.slice A3 (List.length n3) c3)).setCell ⟨w.heap.size, 0, none⟩ (.slice A0 (List.length x.1) c0)).setCell ⟨w.heap.size, 1, none⟩ (.slice A1 (List.length x.2.1) c1)).setCell ⟨w.heap.size, 2, none⟩ (.slice A3 (List.length n3) c3)).setCell ⟨w.heap.size, 3, none⟩ (.int .i64 x.2.2.2.1)).setCell ⟨w.heap.size, 4, none⟩ (.int .i64 x.2.2.2.2)) := ⟨_, rfl⟩
  obtain ⟨hP9, hK9, hs9, C10, F10⟩ := stored5 (v0 := .slice A0 (List.length x.1) c0) (v1 := .slice A1 (List.length x.2.1) c1) (v2 := .slice A3 (List.length n3) c3) (v3 := .int .i64 x.2.2.2.1) (v4 := .int .i64 x.2.2.2.2) hO9 (.inl hw9) (B := B) hB C9
  rw [← hw9]
  obtain ⟨o0, o1, o2, o3, o4, -⟩ := blk5 hP9
  have D10 := F10 w (Nat.le_refl _) D9
  refine bodyPost_ret (v := .agg #[.slice A0 (List.length x.1) c0, .slice A1 (List.length x.2.1) c1, .slice A3 (List.length n3) c3, .int .i64 x.2.2.2.1, .int .i64 x.2.2.2.2]) (by simp [results, Try.results92, go_sem, o0, o1, o2, o3, o4]) rfl ?_
  exact ⟨D10, C10, _, (x.1, x.2.1, n3, x.2.2.2), rfl, (RdI.keep (Q9) hs9 (fun q h1 h2 => hK9 q b_34)).mono b_34 (by have := Q9.1; omega) (Nat.le_refl _), ⟨hok.1, hok.2.1, hok3⟩⟩
 ·go_wp2_with fail
  refine Calls.mono (C_spec_l1Int _ B _ [-1, 100000, 100001] b_9 b_8 b_33 b_33) ?_
  rintro e w3 ⟨hd3, hc3, s, hs, rfl⟩
  have z3 := hd3.size
  (try simp only [szz] at z3)
  have E3 : Dr B w2 w3 := b_3
  have hnew : -9223372036854775808 ≤ s ∧ s ≤ 9223372036854775807 := by have := mem_word hs b_33; omega
  clear hd3
  have hO3 := Dr.blk E3 hO2 b_34
  have hN3 := Dr.blk E3 hN2 b_34
  clear k0 k1 k2 k3 k4 j0 j1 j2 j3 j4
  obtain ⟨k0, k1, k2, k3, k4, j0, j1, j2, j3, j4⟩ := blk5 hN3
  have hzN3 := hN3.lt
  have hO9 := hO3.far (p := ⟨w1.heap.size, 3, none⟩) b_30 (.int .i64 s)
  have hN9 := hN3.set_ 3 (.int .i64 s)
  have C9 := Cur.far hc3 (p := ⟨w1.heap.size, 3, none⟩) b_30 (.int .i64 s)
  have D9 := Dr.set (D2.out.trans E3) (p := ⟨w1.heap.size, 3, none⟩) (.inr b_30) (.int .i64 s)
  have P0 := (p0.dr E3 b_34).set (p := ⟨w1.heap.size, 3, none⟩) (.inr b_30) (.int .i64 s)
  have P1 := (p1.dr E3 b_34).set (p := ⟨w1.heap.size, 3, none⟩) (.inr b_30) (.int .i64 s)
  have P2 := (p2.dr E3 b_34).set (p := ⟨w1.heap.size, 3, none⟩) (.inr b_30) (.int .i64 s)
  have Q9 : RdI tData (w.heap.size + 1) w3.heap.size (w3.setCell ⟨w1.heap.size, 3, none⟩ (.int .i64 s)) [.slice A0 (List.length x.1) c0, .slice A1 (List.length x.2.1) c1, .slice A2 (List.length x.2.2.1) c2, .int .i64 s, .int .i64 x.2.2.2.2] (x.1, x.2.1, x.2.2.1, s, x.2.2.2.2) := RdI.data (x := (x.1, x.2.1, x.2.2.1, s, x.2.2.2.2)) (P0.mono b_34 (by have := P0.1; rw [World.size_setCell] at this; omega) b_22) (P1.mono b_34 (by have := P1.1; rw [World.size_setCell] at this; omega) b_22) (P2.mono b_34 (by have := P2.1; rw [World.size_setCell] at this; omega) b_22) hnew hi4
  clear P0 P1 P2 p0 p1 p2 hN3 hO3 hc3 E3 hO2 hN2 hc2
  obtain ⟨o0, o1, o2, o3, o4, q0, q1, q2, q3, q4⟩ := blk5 hO9
  have zO9 := hO9.lt
  have zN9 := hN9.lt
  obtain ⟨m0, m1, m2, m3, m4, -⟩ := blk5 hN9
  go_wp2_with fail
  obtain ⟨w9, hw9⟩ : ∃ w9, w9 = ((((((w3.setCell ⟨w1.heap.size, 3, none⟩ (.int .i64 s)).setCell ⟨w.heap.size, 0, none⟩ (.slice A0 (List.length x.1) c0)).setCell ⟨w.heap.size, 1, none⟩ (.slice A1 (List.length x.2.1) c1)).setCell ⟨w.heap.size, 2, none⟩ (.slice A2 (List.length x.2.2.1) c2)).setCell ⟨w.heap.size, 3, none⟩ (.int .i64 s)).setCell ⟨w.heap.size, 4, none⟩ (.int .i64 x.2.2.2.2)) := ⟨_, rfl⟩
  obtain ⟨hP9, hK9, hs9, C10, F10⟩ := stored5 (v0 := .slice A0 (List.length x.1) c0) (v1 := .slice A1 (List.length x.2.1) c1) (v2 := .slice A2 (List.length x.2.2.1) c2) (v3 := .int .i64 s) (v4 := .int .i64 x.2.2.2.2) hO9 (.inl hw9) (B := B) hB C9
  rw [← hw9]
  obtain ⟨o0, o1, o2, o3, o4, -⟩ := blk5 hP9
  have D10 := F10 w (Nat.le_refl _) D9
  refine bodyPost_ret (v := .agg #[.slice A0 (List.length x.1) c0, .slice A1 (List.length x.2.1) c1, .slice A2 (List.length x.2.2.1) c2, .int .i64 s, .int .i64 x.2.2.2.2]) (by simp [results, Try.results92, go_sem, o0, o1, o2, o3, o4]) rfl ?_
  exact ⟨D10, C10, _, (x.1, x.2.1, x.2.2.1, s, x.2.2.2.2), rfl, (RdI.keep (Q9) hs9 (fun q h1 h2 => hK9 q b_34)).mono b_34 (by have := Q9.1; omega) (Nat.le_refl _), hok⟩
 ·go_wp2_with fail
  refine Calls.mono (C_spec_l3Word _ B b_9) ?_
  rintro e w3 ⟨hd3, hc3, s, rfl, hs0, hs1⟩
  have z3 := hd3.size
  (try simp only [szz] at z3)
  have E3 : Dr B w2 w3 := b_3
  have hnew : -9223372036854775808 ≤ s ∧ s ≤ 9223372036854775807 := by omega
  clear hd3
  have hO3 := Dr.blk E3 hO2 b_34
  have hN3 := Dr.blk E3 hN2 b_34
  clear k0 k1 k2 k3 k4 j0 j1 j2 j3 j4
  obtain ⟨k0, k1, k2, k3, k4, j0, j1, j2, j3, j4⟩ := blk5 hN3
  have hzN3 := hN3.lt
  have hO9 := hO3.far (p := ⟨w1.heap.size, 4, none⟩) b_30 (.int .i64 s)
  have hN9 := hN3.set_ 4 (.int .i64 s)
  have C9 := Cur.far hc3 (p := ⟨w1.heap.size, 4, none⟩) b_30 (.int .i64 s)
  have D9 := Dr.set (D2.out.trans E3) (p := ⟨w1.heap.size, 4, none⟩) (.inr b_30) (.int .i64 s)
  have P0 := (p0.dr E3 b_34).set (p := ⟨w1.heap.size, 4, none⟩) (.inr b_30) (.int .i64 s)
  have P1 := (p1.dr E3 b_34).set (p := ⟨w1.heap.size, 4, none⟩) (.inr b_30) (.int .i64 s)
  have P2 := (p2.dr E3 b_34).set (p := ⟨w1.heap.size, 4, none⟩) (.inr b_30) (.int .i64 s)
  have Q9 : RdI tData (w.heap.size + 1) w3.heap.size (w3.setCell ⟨w1.heap.size, 4, none⟩ (.int .i64 s)) [.slice A0 (List.length x.1) c0, .slice A1 (List.length x.2.1) c1, .slice A2 (List.length x.2.2.1) c2, .int .i64 x.2.2.2.1, .int .i64 s] (x.1, x.2.1, x.2.2.1, x.2.2.2.1, s) := RdI.data (x := (x.1, x.2.1, x.2.2.1, x.2.2.2.1, s)) (P0.mono b_34 (by have := P0.1; rw [World.size_setCell] at this; omega) b_22) (P1.mono b_34 (by have := P1.1; rw [World.size_setCell] at this; omega) b_22) (P2.mono b_34 (by have := P2.1; rw [World.size_setCell] at this; omega) b_22) hi3 hnew
  clear P0 P1 P2 p0 p1 p2 hN3 hO3 hc3 E3 hO2 hN2 hc2
  obtain ⟨o0, o1, o2, o3, o4, q0, q1, q2, q3, q4⟩ := blk5 hO9
  have zO9 := hO9.lt
  have zN9 := hN9.lt
  obtain ⟨m0, m1, m2, m3, m4, -⟩ := blk5 hN9
  go_wp2_with fail
  obtain ⟨w9, hw9⟩ : ∃ w9, w9 = ((((((w3.setCell ⟨w1.heap.size, 4, none⟩ (.int .i64 s)).setCell ⟨w.heap.size, 0, none⟩ (.slice A0 (List.length x.1) c0)).setCell ⟨w.heap.size, 1, none⟩ (.slice A1 (List.length x.2.1) c1)).setCell ⟨w.heap.size, 2, none⟩ (.slice A2 (List.length x.2.2.1) c2)).setCell ⟨w.heap.size, 3, none⟩ (.int .i64 x.2.2.2.1)).setCell ⟨w.heap.size, 4, none⟩ (.int .i64 s)) := ⟨_, rfl⟩
  obtain ⟨hP9, hK9, hs9, C10, F10⟩ := stored5 (v0 := .slice A0 (List.length x.1) c0) (v1 := .slice A1 (List.length x.2.1) c1) (v2 := .slice A2 (List.length x.2.2.1) c2) (v3 := .int .i64 x.2.2.2.1) (v4 := .int .i64 s) hO9 (.inl hw9) (B := B) hB C9
  rw [← hw9]
  obtain ⟨o0, o1, o2, o3, o4, -⟩ := blk5 hP9
  have D10 := F10 w (Nat.le_refl _) D9
  refine bodyPost_ret (v := .agg #[.slice A0 (List.length x.1) c0, .slice A1 (List.length x.2.1) c1, .slice A2 (List.length x.2.2.1) c2, .int .i64 x.2.2.2.1, .int .i64 s]) (by simp [results, Try.results92, go_sem, o0, o1, o2, o3, o4]) rfl ?_
  exact ⟨D10, C10, _, (x.1, x.2.1, x.2.2.1, x.2.2.2.1, s), rfl, (RdI.keep (Q9) hs9 (fun q h1 h2 => hK9 q b_34)).mono b_34 (by have := Q9.1; omega) (Nat.le_refl _), hok⟩
 ·go_wp2_with fail
  refine Calls.mono (C_spec_l1Below _ B 3 b_9 b_33 b_33) ?_
  rintro e wa ⟨hda, hca, m, rfl, hm0, hm1⟩
  obtain ⟨m, rfl⟩ : ∃ i : Nat, m = i := ⟨m.toNat, by omega⟩
  have za := hda.size
  (try simp only [szz] at za)
  have Ea : Dr B w2 wa := b_3
  clear hda
  have hv : IntKind.i64.wrap (59 + (m : Int)) = 59 + (m : Int) := IntWalk.i64_in _ b_34
  have hmk : ∀ W : World, (Instr.makeSlice 22 (.int .i64 (59 + (m : Int))) (.int .i64 (59 + (m : Int)))).run Try.prog W = .ok (.slice (some ⟨W.heap.size, 0, none⟩) (59 + m) (59 + m)) (W.alloc (.cells (madeCells #[.int .u8 0] (59 + m)) 5)) := fun W => by
   have := run_make_row' (P := Try.prog) 22 5 (.int .u8 0) 1 Try.underlying22 info_Byte rfl .i64 .i64 (59 + m) b_34 b_34 W
   rw [show ((59 + m : Nat) : Int) = 59 + (m : Int) by omega] at this; exact this
  obtain ⟨w3, hw3⟩ : ∃ w3, w3 = wa.alloc (.cells (madeCells #[.int .u8 0] (59 + m)) 5) := ⟨_, rfl⟩
  have E3 : Dr B w2 w3 := by rw [hw3]; exact Dr.alloc Ea _
  have hc3 : CurT w3 B := by rw [hw3]; exact Cur.alloc hca _
  have z3 : w2.heap.size < w3.heap.size := by rw [hw3, World.size_alloc]; omega
  have hQ3 : RdI (.sl .byte) wa.heap.size w3.heap.size w3 [.slice (some ⟨wa.heap.size, 0, none⟩) (59 + m) (59 + m)] (List.replicate (59 + m) (0 : UInt8)) := by
   rw [hw3, World.size_alloc]; exact rdI_made _ _ _ b_34
  have hlr : List.length (List.replicate (59 + m) (0 : UInt8)) ≤ 61 := by rw [List.length_replicate]; omega
  have hO3 := Dr.blk E3 hO2 b_34
  have hN3 := Dr.blk E3 hN2 b_34
  clear k0 k1 k2 k3 k4 j0 j1 j2 j3 j4
  obtain ⟨k0, k1, k2, k3, k4, j0, j1, j2, j3, j4⟩ := blk5 hN3
  have hzN3 := hN3.lt
  have hO9 := hO3.far (p := ⟨w1.heap.size, 1, none⟩) b_30 (.slice (some ⟨wa.heap.size, 0, none⟩) (59 + m) (59 + m))
  have hN9 := hN3.set_ 1 (.slice (some ⟨wa.heap.size, 0, none⟩) (59 + m) (59 + m))
  have C9 := Cur.far hc3 (p := ⟨w1.heap.size, 1, none⟩) b_30 (.slice (some ⟨wa.heap.size, 0, none⟩) (59 + m) (59 + m))
  have D9 := Dr.set (D2.out.trans E3) (p := ⟨w1.heap.size, 1, none⟩) (.inr b_30) (.slice (some ⟨wa.heap.size, 0, none⟩) (59 + m) (59 + m))
  have P0 := (p0.dr E3 b_34).set (p := ⟨w1.heap.size, 1, none⟩) (.inr b_30) (.slice (some ⟨wa.heap.size, 0, none⟩) (59 + m) (59 + m))
  have P1 := (hQ3).set (p := ⟨w1.heap.size, 1, none⟩) (.inl b_30) (.slice (some ⟨wa.heap.size, 0, none⟩) (59 + m) (59 + m))
  have P2 := (p2.dr E3 b_34).set (p := ⟨w1.heap.size, 1, none⟩) (.inr b_30) (.slice (some ⟨wa.heap.size, 0, none⟩) (59 + m) (59 + m))
  have Q9 : RdI tData (w.heap.size + 1) w3.heap.size (w3.setCell ⟨w1.heap.size, 1, none⟩ (.slice (some ⟨wa.heap.size, 0, none⟩) (59 + m) (59 + m))) [.slice A0 (List.length x.1) c0, .slice (some ⟨wa.heap.size, 0, none⟩) (59 + m) (59 + m), .slice A2 (List.length x.2.2.1) c2, .int .i64 x.2.2.2.1, .int .i64 x.2.2.2.2] (x.1, List.replicate (59 + m) (0 : UInt8), x.2.2) := RdI.data (x := (x.1, List.replicate (59 + m) (0 : UInt8), x.2.2)) (P0.mono b_34 (by have := P0.1; rw [World.size_setCell] at this; omega) b_22) (P1.mono b_34 (by have := P1.1; rw [World.size_setCell] at this; omega) b_22) (P2.mono b_34 (by have := P2.1; rw [World.size_setCell] at this; omega) b_22) hi3 hi4
  clear P0 P1 P2 p0 p1 p2 hN3 hO3 hc3 E3 hO2 hN2 hc2
  subst hw3
  obtain ⟨o0, o1, o2, o3, o4, q0, q1, q2, q3, q4⟩ := blk5 hO9
  have zO9 := hO9.lt
  have zN9 := hN9.lt
  obtain ⟨m0, m1, m2, m3, m4, -⟩ := blk5 hN9
  go_wp2_with fail
  obtain ⟨w9, hw9⟩ : ∃ w9, w9 = (((((((wa.alloc (.cells (madeCells #[.int .u8 0] (59 + m)) 5)).setCell ⟨w1.heap.size, 1, none⟩ (.slice (some ⟨wa.heap.size, 0, none⟩) (59 + m) (59 + m))).setCell ⟨w.heap.size, 0, none⟩ (.slice A0 (List.length x.1) c0)).setCell ⟨w.heap.size, 1, none⟩ (.slice (some ⟨wa.heap.size, 0, none⟩) (59 + m) (59 + m))).setCell ⟨w.heap.size, 2, none⟩ (.slice A2 (List.length x.2.2.1) c2)).setCell ⟨w.heap.size, 3, none⟩ (.int .i64 x.2.2.2.1)).setCell ⟨w.heap.size, 4, none⟩ (.int .i64 x.2.2.2.2)) := ⟨_, rfl⟩
  obtain ⟨hP9, hK9, hs9, C10, F10⟩ := stored5 (v0 := .slice A0 (List.length x.1) c0) (v1 := .slice (some ⟨wa.heap.size, 0, none⟩) (59 + m) (59 + m)) (v2 := .slice A2 (List.length x.2.2.1) c2) (v3 := .int .i64 x.2.2.2.1) (v4 := .int .i64 x.2.2.2.2) hO9 (.inl hw9) (B := B) hB C9
  rw [← hw9]
  obtain ⟨o0, o1, o2, o3, o4, -⟩ := blk5 hP9
  have D10 := F10 w (Nat.le_refl _) D9
  refine bodyPost_ret (v := .agg #[.slice A0 (List.length x.1) c0, .slice (some ⟨wa.heap.size, 0, none⟩) (59 + m) (59 + m), .slice A2 (List.length x.2.2.1) c2, .int .i64 x.2.2.2.1, .int .i64 x.2.2.2.2]) (by simp [results, Try.results92, go_sem, o0, o1, o2, o3, o4]) rfl ?_
  exact ⟨D10, C10, _, (x.1, List.replicate (59 + m) (0 : UInt8), x.2.2), rfl, (RdI.keep (Q9) hs9 (fun q h1 h2 => hK9 q b_34)).mono b_34 (by have := Q9.1; omega) (Nat.le_refl _), ⟨hok.1, hlr, hok.2.2⟩⟩
 ·have q0 : (k == 0) = false := by rw [beq_eq_false_iff_ne]; exact hk.1
  have q1 : (k == 1) = false := by rw [beq_eq_false_iff_ne]; exact hk.2.1
  have q2 : (k == 2) = false := by rw [beq_eq_false_iff_ne]; exact hk.2.2.1
  have q3 : (k == 3) = false := by rw [beq_eq_false_iff_ne]; exact hk.2.2.2.1
  have q4 : (k == 4) = false := by rw [beq_eq_false_iff_ne]; exact hk.2.2.2.2
  have hO9 := hO2
  have hN9 := hN2
  have C9 := hc2
  have D9 := D2.out
  have Q9 : RdI tData (w.heap.size + 1) w1.heap.size w2 [.slice A0 (List.length x.1) c0, .slice A1 (List.length x.2.1) c1, .slice A2 (List.length x.2.2.1) c2, .int .i64 x.2.2.2.1, .int .i64 x.2.2.2.2] x := RdI.data p0 p1 p2 hi3 hi4
  clear k0 k1 k2 k3 k4 j0 j1 j2 j3 j4 hO2 hN2
  obtain ⟨o0, o1, o2, o3, o4, q0, q1, q2, q3, q4⟩ := blk5 hO9
  have zO9 := hO9.lt
  have zN9 := hN9.lt
  obtain ⟨m0, m1, m2, m3, m4, -⟩ := blk5 hN9
  go_wp2_with fail
  obtain ⟨w9, hw9⟩ : ∃ w9, w9 = (((((w2.setCell ⟨w.heap.size, 0, none⟩ (.slice A0 (List.length x.1) c0)).setCell ⟨w.heap.size, 1, none⟩ (.slice A1 (List.length x.2.1) c1)).setCell ⟨w.heap.size, 2, none⟩ (.slice A2 (List.length x.2.2.1) c2)).setCell ⟨w.heap.size, 3, none⟩ (.int .i64 x.2.2.2.1)).setCell ⟨w.heap.size, 4, none⟩ (.int .i64 x.2.2.2.2)) := ⟨_, rfl⟩
  obtain ⟨hP9, hK9, hs9, C10, F10⟩ := stored5 (v0 := .slice A0 (List.length x.1) c0) (v1 := .slice A1 (List.length x.2.1) c1) (v2 := .slice A2 (List.length x.2.2.1) c2) (v3 := .int .i64 x.2.2.2.1) (v4 := .int .i64 x.2.2.2.2) hO9 (.inl hw9) (B := B) hB C9
  rw [← hw9]
  obtain ⟨o0, o1, o2, o3, o4, -⟩ := blk5 hP9
  have D10 := F10 w (Nat.le_refl _) D9
  refine bodyPost_ret (v := .agg #[.slice A0 (List.length x.1) c0, .slice A1 (List.length x.2.1) c1, .slice A2 (List.length x.2.2.1) c2, .int .i64 x.2.2.2.1, .int .i64 x.2.2.2.2]) (by simp [results, Try.results92, go_sem, o0, o1, o2, o3, o4]) rfl ?_
  exact ⟨D10, C10, _, x, rfl, (RdI.keep (Q9) hs9 (fun q h1 h2 => hK9 q b_34)).mono b_34 (by have := Q9.1; omega) (Nat.le_refl _), hok⟩
def RetStG (w : World) (te : TypeId) (x : Ty.D tContentStore) (e : Ending) (w' : World) : Prop :=
 ∃ A c, e = .returned (.agg #[.int .i64 x.1, .slice A (List.length x.2) c]) ∧ GRow tCacheEntry w.heap.size [] w' te (.slice A (List.length x.2) c) x.2 ∧ Below w.heap.size w w'
theorem RetStore.grow {w : World} {te : TypeId} {x : Ty.D tContentStore} {e : Ending} {w' : World} (h : RetStore w te x e w') : RetStG w te x e w' := by
 obtain ⟨v, rfl, hr, hb⟩ := h
 have hg := GRow.ofDRow hr
 obtain ⟨A, c, rfl⟩ := hg.form
 exact ⟨A, c, rfl, hg, hb⟩
theorem wp_hold {P : Program} {s c : Code} {K : Act → World → Prop} {Q : Exit → Act → World → Prop} {a : Act} {w : World} (hk : ∀ a w, c.wp P Q a w → K a w) (h : ∀ K' : Act → World → Prop, Hid (∀ a w, c.wp P Q a w → K' a w) → s.wp P (Exit.then K' Q) a w) : s.wp P (Exit.then K Q) a w := h K (Lib.hid hk)
theorem fld_name (A : Option Addr) (n c : Nat) (A1 : Option Addr) (n1 c1 : Nat) (A2 : Option Addr) (n2 c2 : Nat) (i k : Int) (w : World) : (Instr.field 46 (.agg #[.slice A n c, .slice A1 n1 c1, .slice A2 n2 c2, .int .i64 i, .int .i64 k]) 0).run Try.prog w = .ok (.agg #[.slice A n c]) w := by kernel_rfl
theorem entry_used {now : Int} (hn : -9223372036854775808 ≤ now ∧ now ≤ 9223372036854775807) {W : World} {ds : List Value} {x : Ty.D tCacheEntry} (h : tCacheEntry.rd W ds x) : tCacheEntry.rd W (ds.set 5 (.int .i64 now)) (x.1, now) := by
 obtain ⟨c1, c2, rfl, h1, h2⟩ := h
 have hl := Ty.rd_len h1
 obtain ⟨a, rfl⟩ : ∃ a, c2 = [a] := List.length_eq_one_iff.1 (Ty.rd_len h2)
 refine ⟨c1, [_], ?_, h1, ⟨rfl, hn⟩⟩
 rw [List.set_append_right _ _ (by rw [hl]; decide), hl]; rfl
theorem blk2 {w : World} {g : Nat} {t : TypeId} {a b : Value} (h : Blk w g t #[a, b]) : w.cell? ⟨g, 0, none⟩ = some a ∧ w.cell? ⟨g, 1, none⟩ = some b ∧ w.frozen? ⟨g, 0, none⟩ = false ∧ w.frozen? ⟨g, 1, none⟩ = false := ⟨h.cell 0, h.cell 1, h.f1, h.f1⟩
theorem stored2 {P W : World} {g : Nat} {t : TypeId} {a b v0 v1 : Value} (h : Blk P g t #[a, b]) (hw : W = (P.setCell ⟨g, 0, none⟩ v0).setCell ⟨g, 1, none⟩ v1) :
  Blk W g t #[v0, v1] ∧ (∀ q, q ≠ g → W.heap[q]? = P.heap[q]?) ∧ P.heap.size ≤ W.heap.size ∧ (∀ B, B < g → CurT P B → CurT W B) ∧ ∀ (B : Nat) (w0 : World), w0.heap.size ≤ g → Dr B w0 P → Dr B w0 W := by
 subst hw
 exact ⟨(h.set_ 0 v0).set_ 1 v1, fun q hq => by rw [Below.heap_setCell _ _ _ _ hq, Below.heap_setCell _ _ _ _ hq], by simp only [World.size_setCell]; exact Nat.le_refl _,
  fun B hB hc => Cur.far (Cur.far hc hB v0) hB v1, fun B w0 h0 hd => Dr.set (Dr.set hd (.inr h0) v0) (.inr h0) v1⟩
theorem cache_bulk {c : Int} {l : List (Ty.D tCacheEntry)} {x : Ty.D tData} {now : Int} : Ty.bulk (.sl tCacheEntry) (f_CacheData (c, l) x now).2 ≤ Ty.bulk (.sl tCacheEntry) l + Ty.bulk tData x + 1 := by
 unfold f_CacheData
 split
 ·show Ty.bulk (.sl tCacheEntry) l ≤ _; omega
 ·have h1 := bulk_filter (e := tCacheEntry) (notName x.1) l
  have h2 := roomFor_bulk c (keepE (notName x.1) l)
  have h3 := bulk_app (e := tCacheEntry) (roomFor c (keepE (notName x.1) l)) [(x, now)]
  have h4 := bulk_one (e := tCacheEntry) (x, now)
  have h5 : Ty.bulk tCacheEntry (x, now) = Ty.bulk tData x + 0 := rfl
  have h6 : Ty.bulk (.sl tCacheEntry) (keepE (notName x.1) l) = Ty.bulk (.sl tCacheEntry) (l.filter (notName x.1)) := rfl
  show Ty.bulk (.sl tCacheEntry) (cacheE (c, l) x now) ≤ _
  unfold cacheE
  show Ty.bulk (.sl tCacheEntry) (roomFor c (keepE (notName x.1) l) ++ [(x, now)]) ≤ _
  omega
theorem cache_cap {c : Int} {l : List (Ty.D tCacheEntry)} {x : Ty.D tData} {now : Int} : (f_CacheData (c, l) x now).1 = c := by unfold f_CacheData; split <;> rfl
set_option maxHeartbeats 1000000 in
theorem C_spec_NewContentStoreG (w : World) (a : Int) (i0 : -9223372036854775808 ≤ a ∧ a ≤ 9223372036854775807) :
  Calls Try.prog 36 #[.int .i64 a] w (fun e w' => ∃ n : Int, e = .returned (.agg #[.int .i64 n, .slice none 0 0]) ∧ (0 ≤ n ∧ n ≤ 8) ∧ Below w.heap.size w w') := by
 cases q : inR a 0 8
 all_goals
  go_enter Try.func36, Try.ntmps36
  go_wp2_with fail
  refine (C_spec_l1In _ _ _ _).mono ?_
  rw [q]
  rintro e w1 ⟨rfl, hw1⟩
  subst hw1
  go_wp2
 ·refine bodyPost_ret (v := .agg #[.int .i64 0, .slice none 0 0]) (by simp [results, Try.results36, go_sem]) rfl ?_
  exact ⟨_, rfl, by decide, b_6⟩
 ·refine bodyPost_ret (v := .agg #[.int .i64 a, .slice none 0 0]) (by simp [results, Try.results36, go_sem]) rfl ?_
  exact ⟨_, rfl, by unfold inR at q; simpa using q, b_6⟩
set_option maxRecDepth 100000 in
set_option maxHeartbeats 2000000 in
theorem C_spec_TouchG (w : World) (cs1 : List Value) (x : Ty.D tContentStore) (cs2 : List Value) (n : List (List UInt8)) (now : Int) (h1 : Ty.rd w tContentStore cs1 x) (h2 : (Ty.sl .str).rd w cs2 n) (s0 : Ty.bulk tContentStore x ≤ 1048576) (s1 : Ty.bulk (.sl .str) n ≤ 1048576) (i2 : -9223372036854775808 ≤ now ∧ now ≤ 9223372036854775807) :
  Calls Try.prog 31 #[.agg cs1.toArray, .agg cs2.toArray, .int .i64 now] w (RetStG w 127 (f_Touch x n now)) := by
 obtain ⟨Ax1, cx1, rfl, xg0, xg1⟩ := rd_ContentStore h1
 obtain ⟨An0, cn0, rfl⟩ := Ty.rd_slv h2
 have s0e := store_bulk' s0
 have hxl := Ty.bulk_len s0e
 have hF : f_Touch x n now = (x.1, touchE n now x.2) := rfl
 generalize f_Touch x n now = F at hF ⊢
 have HF := Lib.hid hF
 clear hF
 have kb0_0 : (((w.alloc (.cells #[.int .i64 x.1, .slice Ax1 (List.length x.2) cx1] 55)).alloc (.cells #[.slice An0 (List.length n) cn0] 27)).alloc (.cells #[.int .i64 0, .slice none 0 0] 55)).cell? ⟨w.heap.size, 0, none⟩ = some (.int .i64 x.1) := ((World.cell?_alloc_lt _ _ _ b_26).trans ((World.cell?_alloc_lt _ _ _ b_26).trans (cell_new w _ _ 0 b_24)))
 have kb0_1 : (((w.alloc (.cells #[.int .i64 x.1, .slice Ax1 (List.length x.2) cx1] 55)).alloc (.cells #[.slice An0 (List.length n) cn0] 27)).alloc (.cells #[.int .i64 0, .slice none 0 0] 55)).cell? ⟨w.heap.size, 1, none⟩ = some (.slice Ax1 (List.length x.2) cx1) := ((World.cell?_alloc_lt _ _ _ b_26).trans ((World.cell?_alloc_lt _ _ _ b_26).trans (cell_new w _ _ 1 b_24)))
 have kb1_0 : (((w.alloc (.cells #[.int .i64 x.1, .slice Ax1 (List.length x.2) cx1] 55)).alloc (.cells #[.slice An0 (List.length n) cn0] 27)).alloc (.cells #[.int .i64 0, .slice none 0 0] 55)).cell? ⟨w.heap.size + 1, 0, none⟩ = some (.slice An0 (List.length n) cn0) := ((World.cell?_alloc_lt _ _ _ b_26).trans (cell_new (w.alloc (.cells #[.int .i64 x.1, .slice Ax1 (List.length x.2) cx1] 55)) _ _ 0 b_24))
 have kb2_0 : (((w.alloc (.cells #[.int .i64 x.1, .slice Ax1 (List.length x.2) cx1] 55)).alloc (.cells #[.slice An0 (List.length n) cn0] 27)).alloc (.cells #[.int .i64 0, .slice none 0 0] 55)).cell? ⟨w.heap.size + 1 + 1, 0, none⟩ = some (.int .i64 0) := (cell_new ((w.alloc (.cells #[.int .i64 x.1, .slice Ax1 (List.length x.2) cx1] 55)).alloc (.cells #[.slice An0 (List.length n) cn0] 27)) _ _ 0 b_24)
 have kb2_1 : (((w.alloc (.cells #[.int .i64 x.1, .slice Ax1 (List.length x.2) cx1] 55)).alloc (.cells #[.slice An0 (List.length n) cn0] 27)).alloc (.cells #[.int .i64 0, .slice none 0 0] 55)).cell? ⟨w.heap.size + 1 + 1, 1, none⟩ = some (.slice none 0 0) := (cell_new ((w.alloc (.cells #[.int .i64 x.1, .slice Ax1 (List.length x.2) cx1] 55)).alloc (.cells #[.slice An0 (List.length n) cn0] 27)) _ _ 1 b_24)
 have hvb : Below w.heap.size w (((w.alloc (.cells #[.int .i64 x.1, .slice Ax1 (List.length x.2) cx1] 55)).alloc (.cells #[.slice An0 (List.length n) cn0] 27)).alloc (.cells #[.int .i64 0, .slice none 0 0] 55)) := b_6
 have zb0 := Lib.hid (show (((w.alloc (.cells #[.int .i64 x.1, .slice Ax1 (List.length x.2) cx1] 55)).alloc (.cells #[.slice An0 (List.length n) cn0] 27)).alloc (.cells #[.int .i64 0, .slice none 0 0] 55)).heap.size = w.heap.size + 1 + 1 + 1 from by simp only [World.size_alloc])
 have zb : w.heap.size + 1 + 1 < (((w.alloc (.cells #[.int .i64 x.1, .slice Ax1 (List.length x.2) cx1] 55)).alloc (.cells #[.slice An0 (List.length n) cn0] 27)).alloc (.cells #[.int .i64 0, .slice none 0 0] 55)).heap.size := by simp only [World.size_alloc]; omega
 have hR0 : Blk (((w.alloc (.cells #[.int .i64 x.1, .slice Ax1 (List.length x.2) cx1] 55)).alloc (.cells #[.slice An0 (List.length n) cn0] 27)).alloc (.cells #[.int .i64 0, .slice none 0 0] 55)) (w.heap.size + 1 + 1) 55 #[.int .i64 0, .slice none 0 0] := by have := Blk.new ((w.alloc (.cells #[.int .i64 x.1, .slice Ax1 (List.length x.2) cx1] 55)).alloc (.cells #[.slice An0 (List.length n) cn0] 27)) 55 #[.int .i64 0, .slice none 0 0]; rwa [World.size_alloc, World.size_alloc] at this
 go_enter Try.func31, Try.ntmps31
 go_wp2_with fail
 generalize (((w.alloc (.cells #[.int .i64 x.1, .slice Ax1 (List.length x.2) cx1] 55)).alloc (.cells #[.slice An0 (List.length n) cn0] 27)).alloc (.cells #[.int .i64 0, .slice none 0 0] 55)) = WX at hR0 kb0_0 kb0_1 kb1_0 kb2_0 kb2_1 hvb zb zb0 ⊢
 have HC : Hid (∀ V, Below WX.heap.size WX V → V.cell? ⟨w.heap.size, 0, none⟩ = some (.int .i64 x.1) ∧ V.cell? ⟨w.heap.size, 1, none⟩ = some (.slice Ax1 (List.length x.2) cx1) ∧ V.cell? ⟨w.heap.size + 1, 0, none⟩ = some (.slice An0 (List.length n) cn0) ∧ V.cell? ⟨w.heap.size + 1 + 1, 0, none⟩ = some (.int .i64 0) ∧ V.cell? ⟨w.heap.size + 1 + 1, 1, none⟩ = some (.slice none 0 0)) := fun V hW => ⟨(hW.cell (p := ⟨w.heap.size, 0, none⟩) b_30).trans kb0_0, (hW.cell (p := ⟨w.heap.size, 1, none⟩) b_30).trans kb0_1, (hW.cell (p := ⟨w.heap.size + 1, 0, none⟩) b_30).trans kb1_0, (hW.cell (p := ⟨w.heap.size + 1 + 1, 0, none⟩) b_30).trans kb2_0, (hW.cell (p := ⟨w.heap.size + 1 + 1, 1, none⟩) b_30).trans kb2_1⟩
 clear kb0_0 kb0_1 kb1_0 kb2_0 kb2_1
 have hcp := C_spec_l12CopyR WX _ x (Ty.rd_below hvb h1) s0
 rw [keep_all] at hcp
 refine hcp.mono ?_
 rintro e w1 ⟨v9, rfl, hrow, hb1⟩
 clear hcp
 have hgr := GRow.ofDRow hrow
 obtain ⟨Aq1, cq1, fp1, rfl, how1, hfr1⟩ := hrow.own
 have HGR := Lib.hid hgr
 clear hrow hgr
 have hz1 := hb1.size
 have hO0 : Blk (w1.alloc (.cells #[.int .i64 x.1, .slice Aq1 (List.length x.2) cq1] 55)) w1.heap.size 55 #[.int .i64 x.1, .slice Aq1 (List.length x.2) cq1] := Blk.new _ _ _
 have hvo : Below w1.heap.size w1 (w1.alloc (.cells #[.int .i64 x.1, .slice Aq1 (List.length x.2) cq1] 55)) := b_6
 have zo : w1.heap.size < (w1.alloc (.cells #[.int .i64 x.1, .slice Aq1 (List.length x.2) cq1] 55)).heap.size := by rw [World.size_alloc]; omega
 obtain ⟨j0, j1, j2, j3, j4⟩ := HC.out _ (hb1)
 have zw0 : w.heap.size < w1.heap.size := by omega
 have zw1 : w.heap.size + 1 < w1.heap.size := by omega
 go_wp2_with fail
 clear j0 j1 j2 j3 j4
 generalize (w1.alloc (.cells #[.int .i64 x.1, .slice Aq1 (List.length x.2) cq1] 55)) = WO at hO0 hvo zo ⊢
 have hx0 : Below WX.heap.size WX WO := bel_trans hb1 hvo
 refine (C_spec_l12Find _ _ x.2 _ n (Ty.rd_below (bel_trans hvb hx0) xg1) (Ty.rd_below (bel_trans hvb hx0) h2)).mono ?_
 rintro e w2 ⟨rfl, hb2⟩
 have h12 : Below w1.heap.size w1 w2 := bel_trans hvo hb2
 have hsw := hb2.size
 rcases ixf_cases (entName n) x.2 with ⟨hi, hn⟩ | ⟨k, hlt, hi, ht, hq⟩
 ·rw [hi]
  have HE := Lib.hid hn
  clear hi hn
  have hE : touchE n now x.2 = x.2 := touchE_miss HE.out
  have hw9 : Below w.heap.size w w2 := bel_trans hvb (bel_trans hx0 hb2)
  have hO8 := hO0.below hb2 hO0.lt
  have hR8 := (hR0.below hx0 hR0.lt).below hb2 (hR0.below hx0 hR0.lt).lt
  have kR_8_0 : w2.cell? ⟨w.heap.size + 1 + 1, 0, none⟩ = some (.int .i64 0) := hR8.cell 0
  have fR_8_0 : w2.frozen? ⟨w.heap.size + 1 + 1, 0, none⟩ = false := hR8.frozen 0
  have kR_8_1 : w2.cell? ⟨w.heap.size + 1 + 1, 1, none⟩ = some (.slice none 0 0) := hR8.cell 1
  have fR_8_1 : w2.frozen? ⟨w.heap.size + 1 + 1, 1, none⟩ = false := hR8.frozen 1
  have zR_8 : w.heap.size + 1 + 1 < w2.heap.size := hR8.lt
  have kO_8_0 : w2.cell? ⟨w1.heap.size, 0, none⟩ = some (.int .i64 x.1) := hO8.cell 0
  have fO_8_0 : w2.frozen? ⟨w1.heap.size, 0, none⟩ = false := hO8.frozen 0
  have kO_8_1 : w2.cell? ⟨w1.heap.size, 1, none⟩ = some (.slice Aq1 (List.length x.2) cq1) := hO8.cell 1
  have fO_8_1 : w2.frozen? ⟨w1.heap.size, 1, none⟩ = false := hO8.frozen 1
  have zO_8 : w1.heap.size < w2.heap.size := hO8.lt
  go_wp2
  refine bodyPost_ret (v := .agg #[.int .i64 x.1, .slice Aq1 (List.length x.2) cq1]) (by simp [results, Try.results31, go_sem, kR_8_0, fR_8_0, kR_8_1, fR_8_1, kO_8_0, fO_8_0, kO_8_1, fO_8_1, zR_8, zO_8]) rfl ?_
  rw [HF.out, hE]
  exact ⟨_, _, rfl, (((HGR.out.below h12).set (p := ⟨w.heap.size + 1 + 1, 0, none⟩) (.inl b_30) _).set (p := ⟨w.heap.size + 1 + 1, 1, none⟩) (.inl b_30) _).mono b_34, b_6⟩
 ·rw [hi]
  have HT := Lib.hid ht
  have HQ := Lib.hid hq
  clear hi ht hq
  have i0 : (0 : Int) ≤ (k : Int) := by omega
  have i1 : (k : Int) < (List.length x.2 : Int) := by omega
  obtain ⟨b, o, dse, rfl, hle, hcelle, hrde⟩ := Ty.rd_at (Ty.rd_below h12 (Ty.ow_rd how1)) hlt
  have hrde' := hrde
  obtain ⟨Ae00, ce00, Ae01, ce01, Ae02, ce02, rfl, eg0, eg1⟩ := rd_CacheEntry hrde
  have e0 : w2.cell? ⟨b, o + k * 6, none⟩ = some (.slice Ae00 (List.length (x.2)[k].1.1) ce00) := by simpa [Ty.sz] using hcelle 0 b_33
  have e1 : w2.cell? ⟨b, o + k * 6 + 1, none⟩ = some (.slice Ae01 (List.length (x.2)[k].1.2.1) ce01) := by simpa [Ty.sz] using hcelle 1 b_33
  have e2 : w2.cell? ⟨b, o + k * 6 + 2, none⟩ = some (.slice Ae02 (List.length (x.2)[k].1.2.2.1) ce02) := by simpa [Ty.sz] using hcelle 2 b_33
  have e3 : w2.cell? ⟨b, o + k * 6 + 3, none⟩ = some (.int .i64 (x.2)[k].1.2.2.2.1) := by simpa [Ty.sz] using hcelle 3 b_33
  have e4 : w2.cell? ⟨b, o + k * 6 + 4, none⟩ = some (.int .i64 (x.2)[k].1.2.2.2.2) := by simpa [Ty.sz] using hcelle 4 b_33
  have e5 : w2.cell? ⟨b, o + k * 6 + 5, none⟩ = some (.int .i64 (x.2)[k].2) := by simpa [Ty.sz] using hcelle 5 b_33
  clear hcelle hle
  have HIX := Lib.hid (touchE_hit (now := now) (ixf_hit (entName n) x.2 hlt HT.out HQ.out))
  obtain ⟨b9, o9, hA9, hb9, hfz⟩ := Ty.ow_at how1 hlt
  injection hA9 with hA9
  injection hA9 with hA91 hA92
  subst hA91; subst hA92
  have hbl : b < w1.heap.size := Ty.ow_lt how1 b hb9
  have h9 : Below w1.heap.size w1 w2 := h12
  have hx9 : Below WO.heap.size WO w2 := hb2
  have c9 : w2.cell? ⟨b, o + k * 6 + 5, none⟩ = some (.int .i64 (x.2)[k].2) := e5
  have f9 : w2.frozen? ⟨b, o + k * 6 + 5, none⟩ = false := (h9.frozen (p := ⟨b, o + k * 6 + 5, none⟩) hbl).trans (hfz 5 b_33)
  have z9 : b < w2.heap.size := Nat.lt_of_lt_of_le hbl h9.size
  have hO8 : Blk w2 w1.heap.size 55 #[.int .i64 x.1, .slice (some ⟨b, o, none⟩) (List.length x.2) cq1] := hO0.below hx9 hO0.lt
  have hR8 : Blk w2 (w.heap.size + 1 + 1) 55 #[.int .i64 0, .slice none 0 0] := (hR0.below hx0 hR0.lt).below hx9 (hR0.below hx0 hR0.lt).lt
  have kR_8_0 : w2.cell? ⟨w.heap.size + 1 + 1, 0, none⟩ = some (.int .i64 0) := hR8.cell 0
  have fR_8_0 : w2.frozen? ⟨w.heap.size + 1 + 1, 0, none⟩ = false := hR8.frozen 0
  have kR_8_1 : w2.cell? ⟨w.heap.size + 1 + 1, 1, none⟩ = some (.slice none 0 0) := hR8.cell 1
  have fR_8_1 : w2.frozen? ⟨w.heap.size + 1 + 1, 1, none⟩ = false := hR8.frozen 1
  have zR_8 : w.heap.size + 1 + 1 < w2.heap.size := hR8.lt
  have kO_8_0 : w2.cell? ⟨w1.heap.size, 0, none⟩ = some (.int .i64 x.1) := hO8.cell 0
  have fO_8_0 : w2.frozen? ⟨w1.heap.size, 0, none⟩ = false := hO8.frozen 0
  have kO_8_1 : w2.cell? ⟨w1.heap.size, 1, none⟩ = some (.slice (some ⟨b, o, none⟩) (List.length x.2) cq1) := hO8.cell 1
  have fO_8_1 : w2.frozen? ⟨w1.heap.size, 1, none⟩ = false := hO8.frozen 1
  have zO_8 : w1.heap.size < w2.heap.size := hO8.lt
  have hn1 : w1.heap.size ≠ b := by omega
  have hn2 : w.heap.size + 1 + 1 ≠ b := fun e => by have := (hfr1.2 b hb9).1; omega
  have hn3 : b ≠ w1.heap.size := by omega
  have hn4 : b ≠ w.heap.size + 1 + 1 := fun e => hn2 e.symm
  have hn5 : w1.heap.size ≠ w.heap.size + 1 + 1 := by omega
  have hn6 : w.heap.size + 1 + 1 ≠ w1.heap.size := by omega
  have hw9 : Below w.heap.size w w2 := bel_trans hvb (bel_trans hx0 hx9)
  have hwb : w.heap.size ≤ b := by have := (hfr1.2 b hb9).1; omega
  have HG3 : Hid (GRow tCacheEntry WX.heap.size [] (w2.setCell ⟨b, o + k * 6 + 5, none⟩ (.int .i64 now)) 127 (.slice (some ⟨b, o, none⟩) (List.length x.2) cq1) (setUsed x.2 k now)) := by
   have hgb := HGR.out.below h12
   obtain ⟨g, ds, hA, -⟩ := hgb.at hlt
   simp only [Option.some.injEq, Addr.mk.injEq, and_true] at hA
   obtain ⟨rfl, rfl⟩ := hA
   rw [setUsed_at hlt, Nat.zero_add]
   exact Lib.hid (hgb.setAt (j := 5) hlt b_33 (.int .i64 now) ((x.2)[k].1, now) (fun W ds h => entry_used i2 h))
  clear e0 e1 e2 e3 e4 e5
  go_wp2
  refine bodyPost_ret (v := .agg #[.int .i64 x.1, .slice (some ⟨b, o, none⟩) (List.length x.2) cq1]) (by simp [results, Try.results31, go_sem, c9, f9, z9, kR_8_0, fR_8_0, kR_8_1, fR_8_1, kO_8_0, fO_8_0, kO_8_1, fO_8_1, zR_8, zO_8, hn1, hn2, hn3, hn4, hn5, hn6]) rfl ?_
  rw [HF.out, HIX.out]
  have hlu := setUsed_len x.2 k now
  exact ⟨_, _, by show _ = Ending.returned (.agg #[.int .i64 x.1, .slice (some ⟨b, o, none⟩) (List.length (setUsed x.2 k now)) cq1]); rw [hlu], by show GRow _ _ _ _ _ (.slice (some ⟨b, o, none⟩) (List.length (setUsed x.2 k now)) cq1) (setUsed x.2 k now); rw [hlu]; exact ((HG3.out.set (p := ⟨w.heap.size + 1 + 1, 0, none⟩) (.inl b_30) _).set (p := ⟨w.heap.size + 1 + 1, 1, none⟩) (.inl b_30) _).mono b_34, b_6⟩
theorem stored5n {P W : World} {g : Nat} {t : TypeId} {a b c d e v0 v1 v2 v3 v4 : Value} (h : Blk P g t #[a, b, c, d, e]) (hw : W = (((((P.setCell ⟨g, 0, none⟩ v0).setCell ⟨g, 1, none⟩ v1).setCell ⟨g, 2, none⟩ v2).setCell ⟨g, 3, none⟩ v3).setCell ⟨g, 4, none⟩ v4) ∨ W = (((((P.setCell ⟨g, 0, none⟩ v0).setCell ⟨g, 1, none⟩ v1).setCell ⟨g, 2, none⟩ v2).setCell ⟨g, 3, none⟩ v3).setCell ⟨g, 4, none⟩ v4).drew) :
  Blk W g t #[v0, v1, v2, v3, v4] ∧ (∀ q, q ≠ g → W.heap[q]? = P.heap[q]?) ∧ P.heap.size ≤ W.heap.size ∧ ∀ (w0 : World) (B : Nat), w0.heap.size ≤ g → Dr B w0 P → Dr B w0 W := by
 have hb : Blk (((((P.setCell ⟨g, 0, none⟩ v0).setCell ⟨g, 1, none⟩ v1).setCell ⟨g, 2, none⟩ v2).setCell ⟨g, 3, none⟩ v3).setCell ⟨g, 4, none⟩ v4) g t #[v0, v1, v2, v3, v4] := (Blk.set_ (Blk.set_ (Blk.set_ (Blk.set_ (Blk.set_ h 0 v0) 1 v1) 2 v2) 3 v3) 4 v4)
 have hD : ∀ (w0 : World) (B : Nat), w0.heap.size ≤ g → Dr B w0 P → Dr B w0 (((((P.setCell ⟨g, 0, none⟩ v0).setCell ⟨g, 1, none⟩ v1).setCell ⟨g, 2, none⟩ v2).setCell ⟨g, 3, none⟩ v3).setCell ⟨g, 4, none⟩ v4) := fun w0 B h0 hd => Dr.set (Dr.set (Dr.set (Dr.set (Dr.set hd (.inr h0) v0) (.inr h0) v1) (.inr h0) v2) (.inr h0) v3) (.inr h0) v4
 rcases hw with rfl | rfl
 ·exact ⟨hb, fun q hq => keep5 _ _ _ _ _ _ _ hq, by simp only [World.size_setCell]; exact Nat.le_refl _, hD⟩
 ·exact ⟨hb.drew, fun q hq => keep5d _ _ _ _ _ _ _ hq, by simp only [World.size_setCell, World.size_drew]; exact Nat.le_refl _, fun w0 B h0 hd => (hD w0 B h0 hd).drew⟩
theorem rd_takeV {w : World} {e : Ty} {A : Option Addr} {n c : Nat} {x : List e.D} (h : (Ty.sl e).rd w [.slice A n c] x) {k : Nat} (hk : k ≤ x.length) : (Ty.sl e).rd w [.slice A k c] (x.take k) := by
 obtain ⟨A', c', h1, h2, h3, h4, h5⟩ := h
 simp only [List.cons.injEq, Value.slice.injEq, and_true] at h1
 obtain ⟨rfl, h1b, rfl⟩ := h1
 have hl : (x.take k).length = k := by rw [List.length_take]; omega
 refine ⟨A, c, by rw [hl], by rw [hl]; omega, h3, by rw [hl]; omega, fun h0 => ?_⟩
 rw [hl] at h0
 obtain ⟨b, o, hA, hc⟩ := h5 b_34
 refine ⟨b, o, hA, fun i hi => ?_⟩
 rw [hl] at hi
 obtain ⟨ds, g1, g2, g3⟩ := hc i b_34
 exact ⟨ds, g1, g2, by rw [List.getElem_take]; exact g3⟩
theorem RdI.take {e : Ty} {lo hi : Nat} {w : World} {A : Option Addr} {n c : Nat} {x : List e.D} (h : RdI (.sl e) lo hi w [.slice A n c] x) {k : Nat} (hk : k ≤ x.length) : RdI (.sl e) lo hi w [.slice A k c] (x.take k) := ⟨h.1, fun W hW => rd_takeV (h.2 W hW) hk⟩
end Go.Proofs.Ytldgbnlcnlfmeaa
