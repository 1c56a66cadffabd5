/- The law FnSeens, walked out of the contracts. Printed by gen54.py. -/
import Derived.Test.YtldgbnlcnlfmeaaSdr
import Derived.Test.YtldgbnlcnlfmeaaSee
import Derived.Test.YtldgbnlcnlfmeaaSam
import Derived.Test.YtldgbnlcnlfmeaaKdg
import Derived.Deep.RegionHeld3
namespace Go.Proofs.Ytldgbnlcnlfmeaa
open Go.RowKit
set_option linter.unusedVariables false
set_option linter.unusedSimpArgs false

set_option maxHeartbeats 1000000 in
theorem C_laws_big (w : World) (A : Option Addr) (n c : Nat) : Calls Try.prog 7 #[.slice A n c] w (RetBP w (decide ((n : Int) > 1048576))) := by
  go_enter Try.func7, Try.ntmps7
  go_wp2
  go_ret
  first | exact ⟨rfl, rfl⟩ | exact ⟨rfl, Below.refl _ _⟩ | trace_state
theorem rd_none (w : World) (e : Ty) (A : Option Addr) : (Ty.sl e).rd w [.slice A 0 0] [] := ⟨A, 0, rfl, Nat.le_refl _, ⟨Nat.zero_le _, fun _ => rfl⟩, by simp, fun h => absurd h (by simp)⟩
set_option maxRecDepth 100000 in
set_option maxHeartbeats 4000000 in
theorem L_FnSeens (w : World) (v0 : Value) (x0 : Ty.D (.sl .byte)) (h0 : Ty.rd w (.sl .byte) [v0] x0) :
    Calls Try.prog 3 #[v0] w (RetB w true) := by
  obtain ⟨A0, c0, rfl, hc0, hm0, hn0⟩ := Ty.rd_sl h0
  go_enter Try.func3, Try.ntmps3
  go_wp2_with fail
  refine (C_laws_big _ _ _ _).mono ?_
  rintro e w1 ⟨rfl, hw1⟩
  obtain rfl : w = w1 := hw1.symm
  by_cases hbig : (x0.length : Int) > 1048576
  · go_wp2
    go_ret
    exact ⟨rfl, (by repeat' (first | (with_reducible exact Below.refl _ _) | (with_reducible assumption) | (with_reducible refine bel_set ?_ (by (try dsimp only); omega) _) | (with_reducible refine bel_alloc ?_ _) | (with_reducible refine bel_drewN ?_ _) | (with_reducible refine bel_drew ?_)))⟩
  go_wp2_with fail
  refine (C_spec_DrawAddSeenNonce _ _ x0 (Ty.rd_below (by repeat' (first | (with_reducible exact Below.refl _ _) | (with_reducible assumption) | (with_reducible refine bel_set ?_ (by (try dsimp only); omega) _) | (with_reducible refine bel_alloc ?_ _) | (with_reducible refine bel_drewN ?_ _) | (with_reducible refine bel_drew ?_))) h0)).mono ?_
  rintro e w1 ⟨As, s, cs, An, n, cn, a, rfl, hs1, hn1, hok, hV, ha, hb1⟩
  have z1 := hb1.size
  have hnb := name_bulk hV
  have s0 : Ty.bulk (.sl tSeenNonce) s ≤ 1048576 := Nat.le_trans hok.2 (by decide)
  have s1 : Ty.bulk (.sl .str) n ≤ 1048576 := Nat.le_trans hnb (by decide)
  have ia : -9223372036854775808 ≤ a ∧ a ≤ 9223372036854775807 := ⟨by omega, by omega⟩
  go_wp2_with fail
  refine (C_impl_AddSeenNonce _ _ s [.slice An n.length cn] n a (Ty.rd_below (by repeat' (first | (with_reducible exact Below.refl _ _) | (with_reducible assumption) | (with_reducible refine bel_set ?_ (by (try dsimp only); omega) _) | (with_reducible refine bel_alloc ?_ _) | (with_reducible refine bel_drewN ?_ _) | (with_reducible refine bel_drew ?_))) hs1) (Ty.rd_below (by repeat' (first | (with_reducible exact Below.refl _ _) | (with_reducible assumption) | (with_reducible refine bel_set ?_ (by (try dsimp only); omega) _) | (with_reducible refine bel_alloc ?_ _) | (with_reducible refine bel_drewN ?_ _) | (with_reducible refine bel_drew ?_))) hn1) s0 s1 ia).mono ?_
  rintro e w2 ⟨Ax, cx, fp2, rfl, how2, hfr2, hb2⟩
  have hx2 : Below w1.heap.size w1 w2 := bel_trans (by repeat' (first | (with_reducible exact Below.refl _ _) | (with_reducible assumption) | (with_reducible refine bel_set ?_ (by (try dsimp only); omega) _) | (with_reducible refine bel_alloc ?_ _) | (with_reducible refine bel_drewN ?_ _) | (with_reducible refine bel_drew ?_))) hb2
  have hB2 : Blk w2 w1.heap.size 27 #[.slice An n.length cn] := (Blk.new w1 _ _).below hb2 (by rw [World.size_alloc]; omega)
  have z2 : w1.heap.size < w2.heap.size := hB2.lt
  have k2 := hB2.c1
  have hxr := Ty.ow_rd how2
  have HX2 := Lib.hid (seen_ne s n a)
  have hBY := Lib.hid (seen_bulk s n a (Nat.le_trans hok.2 (by decide)) (Nat.le_trans hnb (by decide)))
  have HX3 := Lib.hid (seen_at s n a)
  have HX4 := Lib.hid (seen_le s n a hok.1)
  have HX5 := Lib.hid (seen_loop s n a 0 1)
  have HS := Lib.hid (C_spec_AddSeenNonce w2 (.slice As s.length cs) s [.slice An n.length cn] n a (Ty.rd_below hx2 hs1) (Ty.rd_below hx2 hn1) s0 s1 ia)
  generalize f_AddSeenNonce s n a = y at how2 hxr hBY HX2 HX3 HX4 HX5 HS ⊢
  go_wp2_with fail
  refine (HS.out).mono ?_
  rintro e w3 ⟨Ay, cy, fp3, rfl, how3, hfr3, hb3⟩
  have k3 := (hB2.below hb3 z2).c1
  go_wp2_with fail
  refine (C_laws_sameSeen _ _ _ y (Ty.rd_below hb3 hxr) (Ty.ow_rd how3)).mono ?_
  rintro e w4 ⟨rfl, hb4⟩
  have hb24 : Below w2.heap.size w2 w4 := bel_trans hb3 hb4
  have hB4 := hB2.below hb24 z2
  have k4 := hB4.c1
  have z4 : w1.heap.size < w4.heap.size := hB4.lt
  have hy0 := HX2.out
  have qy : ((y.length : Int) == 0) = false := by rw [beq_eq_false_iff_ne]; omega
  clear k2 k3
  go_wp2_with fail
  obtain ⟨m, hm⟩ : ∃ m, y.length = m + 1 := ⟨y.length - 1, by omega⟩
  obtain ⟨b1, o1, ds1, rfl, hl1, hcell1, hrd1⟩ := Ty.rd_at (Ty.rd_below hb24 hxr) (show m < y.length by omega)
  have hlast : y[m] = (n, a) := by have := HX3.out (by omega); simpa only [hm, Nat.add_sub_cancel] using this
  rw [hlast] at hrd1
  obtain ⟨Aa, ca, rfl, sag0, sag1⟩ := rd_SeenNonce hrd1
  have e0 : w4.cell? ⟨b1, o1 + m * 2, none⟩ = some (.slice Aa (List.length n) ca) := by simpa [Ty.sz] using hcell1 0 (by decide)
  have e1 : w4.cell? ⟨b1, o1 + m * 2 + 1, none⟩ = some (.int .i64 a) := by simpa [Ty.sz] using hcell1 1 (by decide)
  have zb1 : b1 < w4.heap.size := World.block_lt_of_cell? _ _ e0
  have hI : Blk (w4.alloc (.cells #[.slice An n.length cn, .int .i64 a, .int .i64 0, .int .i64 1] 33)) w4.heap.size 33 #[.slice An n.length cn, .int .i64 a, .int .i64 0, .int .i64 1] := Blk.new _ _ _
  have hn4 : (Ty.sl .str).rd w4 [.slice An n.length cn] n := Ty.rd_below (bel_trans hx2 hb24) hn1
  have hw4 : Below w.heap.size w w4 := bel_trans (bel_trans (bel_trans (by repeat' (first | (with_reducible exact Below.refl _ _) | (with_reducible assumption) | (with_reducible refine bel_set ?_ (by (try dsimp only); omega) _) | (with_reducible refine bel_alloc ?_ _) | (with_reducible refine bel_drewN ?_ _) | (with_reducible refine bel_drew ?_))) hb1) hx2) hb24
  have hx4 := Ty.rd_below hb24 hxr
  have hloop := HX5.out
  have ql : (((s.length : Nat) : Int) > 24) = False := by simp only [gt_iff_lt, eq_iff_iff, iff_false, Int.not_lt]; have := hok.1; omega
  have qs : (s.length : Int) ≤ 24 := by have := hok.1; omega
  have qm : ((m : Int) + 1) ≤ 24 := by have := HX4.out; omega
  obtain ⟨w5, hw5⟩ : ∃ w5, w5 = (w4.alloc (.cells #[.slice An n.length cn, .int .i64 a, .int .i64 0, .int .i64 1] 33)) := ⟨_, rfl⟩
  have hb45 : Below w4.heap.size w4 w5 := by rw [hw5]; exact (by repeat' (first | (with_reducible exact Below.refl _ _) | (with_reducible assumption) | (with_reducible refine bel_set ?_ (by (try dsimp only); omega) _) | (with_reducible refine bel_alloc ?_ _) | (with_reducible refine bel_drewN ?_ _) | (with_reducible refine bel_drew ?_)))
  rw [← hw5] at hI ⊢
  have HC : Hid (∀ V, Below w5.heap.size w5 V → V.cell? ⟨w4.heap.size, 0, none⟩ = some (.slice An n.length cn) ∧ V.cell? ⟨w4.heap.size, 1, none⟩ = some (.int .i64 a) ∧ V.cell? ⟨w4.heap.size, 2, none⟩ = some (.int .i64 0) ∧ V.cell? ⟨w4.heap.size, 3, none⟩ = some (.int .i64 1) ∧ V.cell? ⟨w1.heap.size, 0, none⟩ = some (.slice An n.length cn) ∧ V.cell? ⟨b1, o1 + m * 2, none⟩ = some (.slice Aa (List.length n) ca)) := fun V hV =>
    ⟨(hI.below hV hI.lt).cell 0, (hI.below hV hI.lt).cell 1, (hI.below hV hI.lt).cell 2, (hI.below hV hI.lt).cell 3, ((hB4.below hb45 z4).below hV (by have := hb45.size; omega)).c1, (bel_trans hb45 hV |>.cell (p := ⟨b1, _, none⟩) zb1).trans e0⟩
  have hn5 := Ty.rd_below hb45 hn4
  have hx5 := Ty.rd_below hb45 hx4
  have hsag : (Ty.sl .str).rd w5 [.slice Aa n.length ca] n := Ty.rd_below hb45 sag0
  have hw5' : Below w.heap.size w w5 := bel_trans hw4 hb45
  have hz0 : -9223372036854775808 ≤ (0 : Int) ∧ (0 : Int) ≤ 9223372036854775807 := by decide
  have hz1 : -9223372036854775808 ≤ (1 : Int) ∧ (1 : Int) ≤ 9223372036854775807 := by decide
  have hq5 : tInterest.rd w5 [.slice An n.length cn, .int .i64 a, .int .i64 0, .int .i64 1] (n, a, 0, 1) := ⟨[_], _, rfl, hn5, [_], _, rfl, ⟨rfl, ia⟩, [_], [_], rfl, ⟨rfl, hz0⟩, ⟨rfl, hz1⟩⟩
  clear hcell1 hl1 e0 e1 hw5 hI hB4 k4 how2 how3 hfr2 hfr3 hrd1 qy
  rw [hm] at hx5 ⊢
  have hbq : Ty.bulk tInterest (n, a, 0, 1) ≤ 1048576 := by show Ty.bulk (.sl .str) n + 0 ≤ 1048576; omega
  have hby : Ty.bulk (.sl tSeenNonce) y ≤ 1048576 := hBY.out
  have hvm : IntKind.i64.wrap (m : Int) = (m : Int) := IntWalk.i64_in _ (by omega)
  have hi0 : (0 : Int) ≤ (m : Int) := by omega
  have hi1 : (m : Int) < (m : Int) + 1 := by omega
  refine wp_region_noPanic ?_
  refine wp_region_held_drew (S := (fun W => W.cell? ⟨w4.heap.size, 0, none⟩ = some (.slice An n.length cn) ∧ W.cell? ⟨w4.heap.size, 1, none⟩ = some (.int .i64 a) ∧ W.cell? ⟨w4.heap.size, 2, none⟩ = some (.int .i64 0) ∧ W.cell? ⟨w4.heap.size, 3, none⟩ = some (.int .i64 1) ∧ W.cell? ⟨w1.heap.size, 0, none⟩ = some (.slice An n.length cn) ∧ W.cell? ⟨b1, o1 + m * 2, none⟩ = some (.slice Aa (List.length n) ca))) (by kernel_rfl) ?_ (fun hHeld => ?_)
  · exact HC.out _ (by (repeat' (first | (with_reducible exact Below.refl _ _) | (with_reducible assumption) | (with_reducible refine bel_set ?_ (by (try dsimp only); omega) _) | (with_reducible refine bel_alloc ?_ _) | (with_reducible refine bel_drewN ?_ _) | (with_reducible refine bel_drew ?_) | (with_reducible refine bel_trans ?_ (by assumption)))); done)
  refine tk 1 (opN rfl) (by kernel_rfl) (by rfl) (by (intro w hSw; (try dsimp only at hSw); go_simp; first | done | with_reducible rfl)) (by assumption) ?_
  try simp only [Act.put, List.setIfInBounds_toArray, List.set_cons_zero, List.set_cons_succ]
  refine tk 2 (opN rfl) (by kernel_rfl) (by rfl) (by (intro w hSw; (try dsimp only at hSw); go_simp; first | done | with_reducible rfl)) (by assumption) ?_
  try simp only [Act.put, List.setIfInBounds_toArray, List.set_cons_zero, List.set_cons_succ]
  refine wpAnyH_ready (rs := [0]) (by kernel_rfl) (by simp) ?_
  refine (AllReadyH.cons (opN rfl) (fun K hK => ?_) AllReadyH.nil)
  go_simp
  refine hK.out _ _ ?_ (fun hHeld => ?_)
  · (try dsimp only)
    exact HC.out _ (by (repeat' (first | (with_reducible exact Below.refl _ _) | (with_reducible assumption) | (with_reducible refine bel_set ?_ (by (try dsimp only); omega) _) | (with_reducible refine bel_alloc ?_ _) | (with_reducible refine bel_drewN ?_ _) | (with_reducible refine bel_drew ?_) | (with_reducible refine bel_trans ?_ (by assumption)))); done)
  clear hK K
  try simp only [Act.put, List.setIfInBounds_toArray, List.set_cons_zero, List.set_cons_succ]
  refine wpAnyH_ready (rs := [3]) (by kernel_rfl) (by simp) ?_
  refine (AllReadyH.cons (opN rfl) (fun K hK => ?_) AllReadyH.nil)
  go_simp
  go_at_call 12
  refine (C_impl_IsLoop _ _ [] _ y [.slice An n.length cn, .int .i64 a, .int .i64 0, .int .i64 1] (n, a, 0, 1) (rd_none _ _ _) (Ty.rd_below (by (repeat' (first | (with_reducible exact Below.refl _ _) | (with_reducible assumption) | (with_reducible refine bel_set ?_ (by (try dsimp only); omega) _) | (with_reducible refine bel_alloc ?_ _) | (with_reducible refine bel_drewN ?_ _) | (with_reducible refine bel_drew ?_) | (with_reducible refine bel_trans ?_ (by assumption)))); done) hx5) (Ty.rd_below (by (repeat' (first | (with_reducible exact Below.refl _ _) | (with_reducible assumption) | (with_reducible refine bel_set ?_ (by (try dsimp only); omega) _) | (with_reducible refine bel_alloc ?_ _) | (with_reducible refine bel_drewN ?_ _) | (with_reducible refine bel_drew ?_) | (with_reducible refine bel_trans ?_ (by assumption)))); done) hq5) (by decide) hby hbq).mono ?_
  rw [hloop]
  rintro e w6 ⟨rfl, hb6⟩
  have hv6 : Below w5.heap.size w5 w6 := bel_trans (by repeat' (first | (with_reducible exact Below.refl _ _) | (with_reducible assumption) | (with_reducible refine bel_set ?_ (by (try dsimp only); omega) _) | (with_reducible refine bel_alloc ?_ _) | (with_reducible refine bel_drewN ?_ _) | (with_reducible refine bel_drew ?_))) hb6
  refine hK.out _ _ ?_ (fun hHeld => ?_)
  · (try dsimp only)
    exact HC.out _ (by (repeat' (first | (with_reducible exact Below.refl _ _) | (with_reducible assumption) | (with_reducible refine bel_set ?_ (by (try dsimp only); omega) _) | (with_reducible refine bel_alloc ?_ _) | (with_reducible refine bel_drewN ?_ _) | (with_reducible refine bel_drew ?_) | (with_reducible refine bel_trans ?_ (by assumption)))); done)
  clear hK K
  try simp only [Act.put, List.setIfInBounds_toArray, List.set_cons_zero, List.set_cons_succ]
  refine tk 4 (opN rfl) (by kernel_rfl) (by rfl) (by (intro w hSw; (try dsimp only at hSw); go_simp; first | done | with_reducible rfl)) (by assumption) ?_
  try simp only [Act.put, List.setIfInBounds_toArray, List.set_cons_zero, List.set_cons_succ]
  refine tk 5 (opN rfl) (by kernel_rfl) (by rfl) (by (intro w hSw; (try dsimp only at hSw); go_simp; first | done | with_reducible rfl)) (by assumption) ?_
  try simp only [Act.put, List.setIfInBounds_toArray, List.set_cons_zero, List.set_cons_succ]
  refine tk 6 (opN rfl) (by kernel_rfl) (by rfl) (by (intro w hSw; (try dsimp only at hSw); go_simp; first | done | with_reducible rfl)) (by assumption) ?_
  try simp only [Act.put, List.setIfInBounds_toArray, List.set_cons_zero, List.set_cons_succ]
  refine tk 7 (opN rfl) (by kernel_rfl) (by rfl) (by (intro w hSw; (try dsimp only at hSw); go_simp; first | done | with_reducible rfl)) (by assumption) ?_
  try simp only [Act.put, List.setIfInBounds_toArray, List.set_cons_zero, List.set_cons_succ]
  refine tk 8 (opN rfl) (by kernel_rfl) (by rfl) (by (intro w hSw; (try dsimp only at hSw); go_simp; first | done | with_reducible rfl)) (by assumption) ?_
  try simp only [Act.put, List.setIfInBounds_toArray, List.set_cons_zero, List.set_cons_succ]
  refine tk 9 (opN rfl) (by kernel_rfl) (by rfl) (by (intro w hSw; (try dsimp only at hSw); go_simp; first | done | with_reducible rfl)) (by assumption) ?_
  try simp only [Act.put, List.setIfInBounds_toArray, List.set_cons_zero, List.set_cons_succ]
  refine tk 10 (opN rfl) (by kernel_rfl) (by rfl) (by (intro w hSw; (try dsimp only at hSw); go_simp; first | done | with_reducible rfl)) (by assumption) ?_
  try simp only [Act.put, List.setIfInBounds_toArray, List.set_cons_zero, List.set_cons_succ]
  refine tk 11 (opN rfl) (by kernel_rfl) (by rfl) (by (intro w hSw; (try dsimp only at hSw); go_simp; first | done | with_reducible rfl)) (by assumption) ?_
  try simp only [Act.put, List.setIfInBounds_toArray, List.set_cons_zero, List.set_cons_succ]
  refine tk 12 (opN rfl) (by kernel_rfl) (by rfl) (by (intro w hSw; (try dsimp only at hSw); go_simp; first | done | with_reducible rfl)) (by assumption) ?_
  try simp only [Act.put, List.setIfInBounds_toArray, List.set_cons_zero, List.set_cons_succ]
  refine tk 13 (opN rfl) (by kernel_rfl) (by rfl) (by (intro w hSw; (try dsimp only at hSw); go_simp; first | done | with_reducible rfl)) (by assumption) ?_
  try simp only [Act.put, List.setIfInBounds_toArray, List.set_cons_zero, List.set_cons_succ]
  refine tk 14 (opN rfl) (by kernel_rfl) (by rfl) (by (intro w hSw; (try dsimp only at hSw); go_simp; first | done | with_reducible rfl)) (by assumption) ?_
  try simp only [Act.put, List.setIfInBounds_toArray, List.set_cons_zero, List.set_cons_succ]
  refine tk 15 (opN rfl) (by kernel_rfl) (by rfl) (by (intro w hSw; (try dsimp only at hSw); go_simp; first | done | with_reducible rfl)) (by assumption) ?_
  try simp only [Act.put, List.setIfInBounds_toArray, List.set_cons_zero, List.set_cons_succ]
  refine tk 16 (opN rfl) (by kernel_rfl) (by rfl) (by (intro w hSw; (try dsimp only at hSw); go_simp; first | done | with_reducible rfl)) (by assumption) ?_
  try simp only [Act.put, List.setIfInBounds_toArray, List.set_cons_zero, List.set_cons_succ]
  refine tk 17 (opN rfl) (by kernel_rfl) (by rfl) (by (intro w hSw; (try dsimp only at hSw); go_simp; first | done | with_reducible rfl)) (by assumption) ?_
  try simp only [Act.put, List.setIfInBounds_toArray, List.set_cons_zero, List.set_cons_succ]
  refine tk 18 (opN rfl) (by kernel_rfl) (by rfl) (by (intro w hSw; (try dsimp only at hSw); go_simp; first | done | with_reducible rfl)) (by assumption) ?_
  try simp only [Act.put, List.setIfInBounds_toArray, List.set_cons_zero, List.set_cons_succ]
  refine tk 19 (opN rfl) (by kernel_rfl) (by rfl) (by (intro w hSw; (try dsimp only at hSw); go_simp; first | done | with_reducible rfl)) (by assumption) ?_
  try simp only [Act.put, List.setIfInBounds_toArray, List.set_cons_zero, List.set_cons_succ]
  refine tk 20 (opN rfl) (by kernel_rfl) (by rfl) (by (intro w hSw; (try dsimp only at hSw); go_simp; first | done | with_reducible rfl)) (by assumption) ?_
  try simp only [Act.put, List.setIfInBounds_toArray, List.set_cons_zero, List.set_cons_succ]
  refine tk 21 (opN rfl) (by kernel_rfl) (by rfl) (by (intro w hSw; (try dsimp only at hSw); go_simp; first | done | with_reducible rfl)) (by assumption) ?_
  try simp only [Act.put, List.setIfInBounds_toArray, List.set_cons_zero, List.set_cons_succ]
  refine tk 22 (opN rfl) (by kernel_rfl) (by rfl) (by (intro w hSw; (try dsimp only at hSw); go_simp; first | done | with_reducible rfl)) (by assumption) ?_
  try simp only [Act.put, List.setIfInBounds_toArray, List.set_cons_zero, List.set_cons_succ]
  refine wpAnyH_ready (rs := [23]) (by kernel_rfl) (by simp) ?_
  refine (AllReadyH.cons (opN rfl) (fun K hK => ?_) AllReadyH.nil)
  go_simp
  go_at_call 13
  refine (C_laws_sameName _ [.slice Aa n.length ca] [.slice An n.length cn] n (Ty.rd_below (by (repeat' (first | (with_reducible exact Below.refl _ _) | (with_reducible assumption) | (with_reducible refine bel_set ?_ (by (try dsimp only); omega) _) | (with_reducible refine bel_alloc ?_ _) | (with_reducible refine bel_drewN ?_ _) | (with_reducible refine bel_drew ?_) | (with_reducible refine bel_trans ?_ (by assumption)))); done) hsag) (Ty.rd_below (by (repeat' (first | (with_reducible exact Below.refl _ _) | (with_reducible assumption) | (with_reducible refine bel_set ?_ (by (try dsimp only); omega) _) | (with_reducible refine bel_alloc ?_ _) | (with_reducible refine bel_drewN ?_ _) | (with_reducible refine bel_drew ?_) | (with_reducible refine bel_trans ?_ (by assumption)))); done) hn5)).mono ?_
  rintro e w7 ⟨rfl, hb7⟩
  have hv7 : Below w5.heap.size w5 w7 := bel_trans (by (repeat' (first | (with_reducible exact Below.refl _ _) | (with_reducible assumption) | (with_reducible refine bel_set ?_ (by (try dsimp only); omega) _) | (with_reducible refine bel_alloc ?_ _) | (with_reducible refine bel_drewN ?_ _) | (with_reducible refine bel_drew ?_) | (with_reducible refine bel_trans ?_ (by assumption)))); done) hb7
  refine hK.out _ _ ?_ (fun hHeld => ?_)
  · (try dsimp only)
    exact HC.out _ (by (repeat' (first | (with_reducible exact Below.refl _ _) | (with_reducible assumption) | (with_reducible refine bel_set ?_ (by (try dsimp only); omega) _) | (with_reducible refine bel_alloc ?_ _) | (with_reducible refine bel_drewN ?_ _) | (with_reducible refine bel_drew ?_) | (with_reducible refine bel_trans ?_ (by assumption)))); done)
  clear hK K
  try simp only [Act.put, List.setIfInBounds_toArray, List.set_cons_zero, List.set_cons_succ]
  refine tk 24 (opN rfl) (by kernel_rfl) (by rfl) (by (intro w hSw; (try dsimp only at hSw); go_simp; first | done | with_reducible rfl)) (by assumption) ?_
  try simp only [Act.put, List.setIfInBounds_toArray, List.set_cons_zero, List.set_cons_succ]
  refine tk 25 (opN rfl) (by kernel_rfl) (by rfl) (by (intro w hSw; (try dsimp only at hSw); go_simp; first | done | with_reducible rfl)) (by assumption) ?_
  try simp only [Act.put, List.setIfInBounds_toArray, List.set_cons_zero, List.set_cons_succ]
  refine wpAnyH_done (by kernel_rfl) ?_ _
  refine NoPanic.normal ?_
  go_wp2
  go_ret
  exact ⟨rfl, bel_trans hw5' hv7⟩
end Go.Proofs.Ytldgbnlcnlfmeaa
