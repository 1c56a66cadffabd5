/- Texts of this claim, merged by a program: Ver Sgd Vsg. -/
import Derived.Test.YtldgbnlcnlfmeaaGreatMf5
import Derived.Test.YtldgbnlcnlfmeaaGreatMf3
import Derived.Test.YtldgbnlcnlfmeaaGreatMf4
/- Data are verified. Printed by gen6.py. -/
namespace Go.Proofs.YtldgbnlcnlfmeaaGreat
open Go.RowKit
set_option linter.unusedVariables false
set_option linter.unusedSimpArgs false

def f_VerifyData (a : Int) (x : tData.D) : Bool := inR a 1 2147483646 && decide (x.2.2.2.2 = mac a (f_SignedPortion x))
set_option maxHeartbeats 8000000 in
theorem C_impl_VerifyData (w : World) (a : Int) (cs : List Value) (x : tData.D) (h : tData.rd w cs x) (i0 : -9223372036854775808 ≤ a ∧ a ≤ 9223372036854775807) (s0 : Ty.bulk tData x ≤ 1048576) :
    Calls Tryz.prog 89 #[.int .i64 a, .agg cs.toArray] w (RetB w (f_VerifyData a x)) := by
  obtain ⟨A0, c0, A1, c1, A2, c2, rfl, g0, g1, g2, b3, b4⟩ := rd_Data h
  have kb0 : (w.alloc (.cells #[.slice A0 (List.length x.1) c0, .slice A1 (List.length x.2.1) c1, .slice A2 (List.length x.2.2.1) c2, .int .i64 x.2.2.2.1, .int .i64 x.2.2.2.2] 34)).cell? ⟨w.heap.size, 0, none⟩ = some (.slice A0 (List.length x.1) c0) := cell_new w _ _ 0 rfl
  have kb1 : (w.alloc (.cells #[.slice A0 (List.length x.1) c0, .slice A1 (List.length x.2.1) c1, .slice A2 (List.length x.2.2.1) c2, .int .i64 x.2.2.2.1, .int .i64 x.2.2.2.2] 34)).cell? ⟨w.heap.size, 1, none⟩ = some (.slice A1 (List.length x.2.1) c1) := cell_new w _ _ 1 rfl
  have kb2 : (w.alloc (.cells #[.slice A0 (List.length x.1) c0, .slice A1 (List.length x.2.1) c1, .slice A2 (List.length x.2.2.1) c2, .int .i64 x.2.2.2.1, .int .i64 x.2.2.2.2] 34)).cell? ⟨w.heap.size, 2, none⟩ = some (.slice A2 (List.length x.2.2.1) c2) := cell_new w _ _ 2 rfl
  have kb3 : (w.alloc (.cells #[.slice A0 (List.length x.1) c0, .slice A1 (List.length x.2.1) c1, .slice A2 (List.length x.2.2.1) c2, .int .i64 x.2.2.2.1, .int .i64 x.2.2.2.2] 34)).cell? ⟨w.heap.size, 3, none⟩ = some (.int .i64 x.2.2.2.1) := cell_new w _ _ 3 rfl
  have kb4 : (w.alloc (.cells #[.slice A0 (List.length x.1) c0, .slice A1 (List.length x.2.1) c1, .slice A2 (List.length x.2.2.1) c2, .int .i64 x.2.2.2.1, .int .i64 x.2.2.2.2] 34)).cell? ⟨w.heap.size, 4, none⟩ = some (.int .i64 x.2.2.2.2) := cell_new w _ _ 4 rfl
  have hvb : Below w.heap.size w (w.alloc (.cells #[.slice A0 (List.length x.1) c0, .slice A1 (List.length x.2.1) c1, .slice A2 (List.length x.2.2.1) c2, .int .i64 x.2.2.2.1, .int .i64 x.2.2.2.2] 34)) := (by repeat' (first | (with_reducible exact Below.refl _ _) | (with_reducible assumption) | (with_reducible refine bel_set ?_ (by (try dsimp only); omega) _) | (with_reducible refine bel_alloc ?_ _) | (with_reducible refine bel_drewN ?_ _) | (with_reducible refine bel_drew ?_)))
  have hzb : w.heap.size < (w.alloc (.cells #[.slice A0 (List.length x.1) c0, .slice A1 (List.length x.2.1) c1, .slice A2 (List.length x.2.2.1) c2, .int .i64 x.2.2.2.1, .int .i64 x.2.2.2.2] 34)).heap.size := by rw [World.size_alloc]; omega
  have hF : f_VerifyData a x = (inR a 1 2147483646 && decide (x.2.2.2.2 = mac a (f_SignedPortion x))) := rfl
  generalize f_VerifyData a x = F at hF ⊢
  have HF := Lib.hid hF
  clear hF
  have HLS := Lib.hid (signed_len s0)
  go_enter Tryz.func89, Tryz.ntmps89
  go_wp2_with fail
  generalize w.alloc (.cells #[.slice A0 (List.length x.1) c0, .slice A1 (List.length x.2.1) c1, .slice A2 (List.length x.2.2.1) c2, .int .i64 x.2.2.2.1, .int .i64 x.2.2.2.2] 34) = WB at kb0 kb1 kb2 kb3 kb4 hvb hzb ⊢
  have HS : Hid (∀ W, Below WB.heap.size WB W → Below w.heap.size w W ∧ W.cell? ⟨w.heap.size, 0, none⟩ = some (.slice A0 (List.length x.1) c0) ∧ W.cell? ⟨w.heap.size, 1, none⟩ = some (.slice A1 (List.length x.2.1) c1) ∧ W.cell? ⟨w.heap.size, 2, none⟩ = some (.slice A2 (List.length x.2.2.1) c2) ∧ W.cell? ⟨w.heap.size, 3, none⟩ = some (.int .i64 x.2.2.2.1) ∧ W.cell? ⟨w.heap.size, 4, none⟩ = some (.int .i64 x.2.2.2.2)) := fun W hW => ⟨bel_trans hvb hW, (hW.cell (p := ⟨w.heap.size, 0, none⟩) hzb).trans kb0, (hW.cell (p := ⟨w.heap.size, 1, none⟩) hzb).trans kb1, (hW.cell (p := ⟨w.heap.size, 2, none⟩) hzb).trans kb2, (hW.cell (p := ⟨w.heap.size, 3, none⟩) hzb).trans kb3, (hW.cell (p := ⟨w.heap.size, 4, none⟩) hzb).trans kb4⟩
  clear kb0 kb1 kb2 kb3 kb4
  cases q0 : inR a 1 2147483646
  · rw [q0] at HF
    go_wp2_with fail
    refine wp_region_noPanic ?_
    refine wp_region_held_drew (S := (fun W => Below w.heap.size w W ∧ W.cell? ⟨w.heap.size, 0, none⟩ = some (.slice A0 (List.length x.1) c0) ∧ W.cell? ⟨w.heap.size, 1, none⟩ = some (.slice A1 (List.length x.2.1) c1) ∧ W.cell? ⟨w.heap.size, 2, none⟩ = some (.slice A2 (List.length x.2.2.1) c2) ∧ W.cell? ⟨w.heap.size, 3, none⟩ = some (.int .i64 x.2.2.2.1) ∧ W.cell? ⟨w.heap.size, 4, none⟩ = some (.int .i64 x.2.2.2.2))) (by kernel_rfl) ?_ (fun hHeld => ?_)
    · exact HS.out _ (by (repeat' (first | (with_reducible exact Below.refl _ _) | (with_reducible assumption) | (with_reducible refine bel_set ?_ (by (try dsimp only); omega) _) | (with_reducible refine bel_alloc ?_ _) | (with_reducible refine bel_drewN ?_ _) | (with_reducible refine bel_drew ?_) | (with_reducible refine bel_trans ?_ (by assumption)))); done)
    refine tk 0 (opN rfl) (by kernel_rfl) (by rfl) (by (intro w hSw; (try dsimp only at hSw); go_simp; first | done | with_reducible rfl)) (by assumption) ?_
    try simp only [Act.put, List.setIfInBounds_toArray, List.set_cons_zero, List.set_cons_succ]
    refine wpAnyH_ready (rs := [1]) (by kernel_rfl) (by simp) ?_
    refine AllReadyH.cons (opN rfl) (fun K hK => ?_) AllReadyH.nil
    go_simp
    go_at_call 102
    refine (C_impl_ValidSecret _ _).mono ?_
    rw [q0]
    rintro e w2 ⟨rfl, hw2⟩
    subst hw2
    refine hK.out _ _ ?_ (fun hHeld => ?_)
    · (try dsimp only)
      exact HS.out _ (by (repeat' (first | (with_reducible exact Below.refl _ _) | (with_reducible assumption) | (with_reducible refine bel_set ?_ (by (try dsimp only); omega) _) | (with_reducible refine bel_alloc ?_ _) | (with_reducible refine bel_drewN ?_ _) | (with_reducible refine bel_drew ?_) | (with_reducible refine bel_trans ?_ (by assumption)))); done)
    clear hK K
    try simp only [Act.put, List.setIfInBounds_toArray, List.set_cons_zero, List.set_cons_succ]
    refine tk 2 (opN rfl) (by kernel_rfl) (by rfl) (by (intro w hSw; (try dsimp only at hSw); go_simp; first | done | with_reducible rfl)) (by assumption) ?_
    try simp only [Act.put, List.setIfInBounds_toArray, List.set_cons_zero, List.set_cons_succ]
    refine sk 3 (opN rfl) (by kernel_rfl) (by rfl) (by assumption) ?_
    try simp only [Act.put, List.setIfInBounds_toArray, List.set_cons_zero, List.set_cons_succ]
    refine sk 4 (opN rfl) (by kernel_rfl) (by rfl) (by assumption) ?_
    try simp only [Act.put, List.setIfInBounds_toArray, List.set_cons_zero, List.set_cons_succ]
    refine sk 5 (opN rfl) (by kernel_rfl) (by rfl) (by assumption) ?_
    try simp only [Act.put, List.setIfInBounds_toArray, List.set_cons_zero, List.set_cons_succ]
    refine sk 6 (opN rfl) (by kernel_rfl) (by rfl) (by assumption) ?_
    try simp only [Act.put, List.setIfInBounds_toArray, List.set_cons_zero, List.set_cons_succ]
    refine sk 7 (opN rfl) (by kernel_rfl) (by rfl) (by assumption) ?_
    try simp only [Act.put, List.setIfInBounds_toArray, List.set_cons_zero, List.set_cons_succ]
    refine sk 8 (opN rfl) (by kernel_rfl) (by rfl) (by assumption) ?_
    try simp only [Act.put, List.setIfInBounds_toArray, List.set_cons_zero, List.set_cons_succ]
    refine sk 9 (opN rfl) (by kernel_rfl) (by rfl) (by assumption) ?_
    try simp only [Act.put, List.setIfInBounds_toArray, List.set_cons_zero, List.set_cons_succ]
    refine tk 10 (opN rfl) (by kernel_rfl) (by rfl) (by (intro w hSw; (try dsimp only at hSw); go_simp; first | done | with_reducible rfl)) (by assumption) ?_
    try simp only [Act.put, List.setIfInBounds_toArray, List.set_cons_zero, List.set_cons_succ]
    refine tk 11 (opN rfl) (by kernel_rfl) (by rfl) (by (intro w hSw; (try dsimp only at hSw); go_simp; first | done | with_reducible rfl)) (by assumption) ?_
    try simp only [Act.put, List.setIfInBounds_toArray, List.set_cons_zero, List.set_cons_succ]
    refine wpAnyH_done (by kernel_rfl) ?_ _
    refine NoPanic.normal ?_
    go_wp2
    go_ret
    exact ⟨ret_bool (by rw [HF.out]; rfl), (by (repeat' (first | (with_reducible exact Below.refl _ _) | (with_reducible assumption) | (with_reducible refine bel_set ?_ (by (try dsimp only); omega) _) | (with_reducible refine bel_alloc ?_ _) | (with_reducible refine bel_drewN ?_ _) | (with_reducible refine bel_drew ?_) | (with_reducible refine bel_trans ?_ (by assumption)))); done)⟩
  · rw [q0] at HF
    go_wp2_with fail
    refine wp_region_noPanic ?_
    refine wp_region_held_drew (S := (fun W => Below w.heap.size w W ∧ W.cell? ⟨w.heap.size, 0, none⟩ = some (.slice A0 (List.length x.1) c0) ∧ W.cell? ⟨w.heap.size, 1, none⟩ = some (.slice A1 (List.length x.2.1) c1) ∧ W.cell? ⟨w.heap.size, 2, none⟩ = some (.slice A2 (List.length x.2.2.1) c2) ∧ W.cell? ⟨w.heap.size, 3, none⟩ = some (.int .i64 x.2.2.2.1) ∧ W.cell? ⟨w.heap.size, 4, none⟩ = some (.int .i64 x.2.2.2.2))) (by kernel_rfl) ?_ (fun hHeld => ?_)
    · exact HS.out _ (by (repeat' (first | (with_reducible exact Below.refl _ _) | (with_reducible assumption) | (with_reducible refine bel_set ?_ (by (try dsimp only); omega) _) | (with_reducible refine bel_alloc ?_ _) | (with_reducible refine bel_drewN ?_ _) | (with_reducible refine bel_drew ?_) | (with_reducible refine bel_trans ?_ (by assumption)))); done)
    refine tk 0 (opN rfl) (by kernel_rfl) (by rfl) (by (intro w hSw; (try dsimp only at hSw); go_simp; first | done | with_reducible rfl)) (by assumption) ?_
    try simp only [Act.put, List.setIfInBounds_toArray, List.set_cons_zero, List.set_cons_succ]
    refine wpAnyH_ready (rs := [1]) (by kernel_rfl) (by simp) ?_
    refine AllReadyH.cons (opN rfl) (fun K hK => ?_) AllReadyH.nil
    go_simp
    go_at_call 102
    refine (C_impl_ValidSecret _ _).mono ?_
    rw [q0]
    rintro e w2 ⟨rfl, hw2⟩
    subst hw2
    refine hK.out _ _ ?_ (fun hHeld => ?_)
    · (try dsimp only)
      exact HS.out _ (by (repeat' (first | (with_reducible exact Below.refl _ _) | (with_reducible assumption) | (with_reducible refine bel_set ?_ (by (try dsimp only); omega) _) | (with_reducible refine bel_alloc ?_ _) | (with_reducible refine bel_drewN ?_ _) | (with_reducible refine bel_drew ?_) | (with_reducible refine bel_trans ?_ (by assumption)))); done)
    clear hK K
    try simp only [Act.put, List.setIfInBounds_toArray, List.set_cons_zero, List.set_cons_succ]
    refine tk 2 (opN rfl) (by kernel_rfl) (by rfl) (by (intro w hSw; (try dsimp only at hSw); go_simp; first | done | with_reducible rfl)) (by assumption) ?_
    try simp only [Act.put, List.setIfInBounds_toArray, List.set_cons_zero, List.set_cons_succ]
    refine tk 3 (opN rfl) (by kernel_rfl) (by rfl) (by (intro w hSw; (try dsimp only at hSw); go_simp; first | done | with_reducible rfl)) (by assumption) ?_
    try simp only [Act.put, List.setIfInBounds_toArray, List.set_cons_zero, List.set_cons_succ]
    refine tk 4 (opN rfl) (by kernel_rfl) (by rfl) (by (intro w hSw; (try dsimp only at hSw); go_simp; first | done | with_reducible rfl)) (by assumption) ?_
    try simp only [Act.put, List.setIfInBounds_toArray, List.set_cons_zero, List.set_cons_succ]
    refine tk 5 (opN rfl) (by kernel_rfl) (by rfl) (by (intro w hSw; (try dsimp only at hSw); go_simp; first | done | with_reducible rfl)) (by assumption) ?_
    try simp only [Act.put, List.setIfInBounds_toArray, List.set_cons_zero, List.set_cons_succ]
    refine tk 6 (opN rfl) (by kernel_rfl) (by rfl) (by (intro w hSw; (try dsimp only at hSw); go_simp; first | done | with_reducible rfl)) (by assumption) ?_
    try simp only [Act.put, List.setIfInBounds_toArray, List.set_cons_zero, List.set_cons_succ]
    refine wpAnyH_ready (rs := [7]) (by kernel_rfl) (by simp) ?_
    refine AllReadyH.cons (opN rfl) (fun K hK => ?_) AllReadyH.nil
    go_simp
    go_at_call 132
    refine (C_impl_SignedPortion _ _ x (Ty.rd_below (by (repeat' (first | (with_reducible exact Below.refl _ _) | (with_reducible assumption) | (with_reducible refine bel_set ?_ (by (try dsimp only); omega) _) | (with_reducible refine bel_alloc ?_ _) | (with_reducible refine bel_drewN ?_ _) | (with_reducible refine bel_drew ?_) | (with_reducible refine bel_trans ?_ (by assumption)))); done) (Ty.rd_below hvb h)) s0).mono ?_
    rintro e w3 ⟨v3, rfl, hr3, hb3⟩
    have HR3 := Lib.hid hr3
    clear hr3
    refine hK.out _ _ ?_ (fun hHeld => ?_)
    · (try dsimp only)
      exact HS.out _ (by (repeat' (first | (with_reducible exact Below.refl _ _) | (with_reducible assumption) | (with_reducible refine bel_set ?_ (by (try dsimp only); omega) _) | (with_reducible refine bel_alloc ?_ _) | (with_reducible refine bel_drewN ?_ _) | (with_reducible refine bel_drew ?_) | (with_reducible refine bel_trans ?_ (by assumption)))); done)
    clear hK K
    try simp only [Act.put, List.setIfInBounds_toArray, List.set_cons_zero, List.set_cons_succ]
    refine wpAnyH_ready (rs := [8]) (by kernel_rfl) (by simp) ?_
    refine AllReadyH.cons (opN rfl) (fun K hK => ?_) AllReadyH.nil
    go_simp
    go_at_call 131
    refine (C_impl_ComputeMAC _ _ a (f_SignedPortion x) i0 (HR3.out.rd hb3.size) (Nat.le_trans HLS.out (by decide))).mono ?_
    rintro e w4 ⟨rfl, hb4⟩
    refine hK.out _ _ ?_ (fun hHeld => ?_)
    · (try dsimp only)
      exact HS.out _ (by (repeat' (first | (with_reducible exact Below.refl _ _) | (with_reducible assumption) | (with_reducible refine bel_set ?_ (by (try dsimp only); omega) _) | (with_reducible refine bel_alloc ?_ _) | (with_reducible refine bel_drewN ?_ _) | (with_reducible refine bel_drew ?_) | (with_reducible refine bel_trans ?_ (by assumption)))); done)
    clear hK K
    try simp only [Act.put, List.setIfInBounds_toArray, List.set_cons_zero, List.set_cons_succ]
    refine tk 9 (opN rfl) (by kernel_rfl) (by rfl) (by (intro w hSw; (try dsimp only at hSw); go_simp; first | done | with_reducible rfl)) (by assumption) ?_
    try simp only [Act.put, List.setIfInBounds_toArray, List.set_cons_zero, List.set_cons_succ]
    refine tk 10 (opN rfl) (by kernel_rfl) (by rfl) (by (intro w hSw; (try dsimp only at hSw); go_simp; first | done | with_reducible rfl)) (by assumption) ?_
    try simp only [Act.put, List.setIfInBounds_toArray, List.set_cons_zero, List.set_cons_succ]
    refine tk 11 (opN rfl) (by kernel_rfl) (by rfl) (by (intro w hSw; (try dsimp only at hSw); go_simp; first | done | with_reducible rfl)) (by assumption) ?_
    try simp only [Act.put, List.setIfInBounds_toArray, List.set_cons_zero, List.set_cons_succ]
    refine wpAnyH_done (by kernel_rfl) ?_ _
    refine NoPanic.normal ?_
    go_wp2
    go_ret
    exact ⟨ret_bool (by rw [HF.out]; (rw [Bool.eq_iff_iff]; simp)), (by (repeat' (first | (with_reducible exact Below.refl _ _) | (with_reducible assumption) | (with_reducible refine bel_set ?_ (by (try dsimp only); omega) _) | (with_reducible refine bel_alloc ?_ _) | (with_reducible refine bel_drewN ?_ _) | (with_reducible refine bel_drew ?_) | (with_reducible refine bel_trans ?_ (by assumption)))); done)⟩
set_option maxHeartbeats 8000000 in
theorem C_spec_VerifyData (w : World) (a : Int) (cs : List Value) (x : tData.D) (h : tData.rd w cs x) (i0 : -9223372036854775808 ≤ a ∧ a ≤ 9223372036854775807) (s0 : Ty.bulk tData x ≤ 1048576) :
    Calls Tryz.prog 100 #[.int .i64 a, .agg cs.toArray] w (RetB w (f_VerifyData a x)) := by
  obtain ⟨A0, c0, A1, c1, A2, c2, rfl, g0, g1, g2, b3, b4⟩ := rd_Data h
  have kb0 : (w.alloc (.cells #[.slice A0 (List.length x.1) c0, .slice A1 (List.length x.2.1) c1, .slice A2 (List.length x.2.2.1) c2, .int .i64 x.2.2.2.1, .int .i64 x.2.2.2.2] 34)).cell? ⟨w.heap.size, 0, none⟩ = some (.slice A0 (List.length x.1) c0) := cell_new w _ _ 0 rfl
  have kb1 : (w.alloc (.cells #[.slice A0 (List.length x.1) c0, .slice A1 (List.length x.2.1) c1, .slice A2 (List.length x.2.2.1) c2, .int .i64 x.2.2.2.1, .int .i64 x.2.2.2.2] 34)).cell? ⟨w.heap.size, 1, none⟩ = some (.slice A1 (List.length x.2.1) c1) := cell_new w _ _ 1 rfl
  have kb2 : (w.alloc (.cells #[.slice A0 (List.length x.1) c0, .slice A1 (List.length x.2.1) c1, .slice A2 (List.length x.2.2.1) c2, .int .i64 x.2.2.2.1, .int .i64 x.2.2.2.2] 34)).cell? ⟨w.heap.size, 2, none⟩ = some (.slice A2 (List.length x.2.2.1) c2) := cell_new w _ _ 2 rfl
  have kb3 : (w.alloc (.cells #[.slice A0 (List.length x.1) c0, .slice A1 (List.length x.2.1) c1, .slice A2 (List.length x.2.2.1) c2, .int .i64 x.2.2.2.1, .int .i64 x.2.2.2.2] 34)).cell? ⟨w.heap.size, 3, none⟩ = some (.int .i64 x.2.2.2.1) := cell_new w _ _ 3 rfl
  have kb4 : (w.alloc (.cells #[.slice A0 (List.length x.1) c0, .slice A1 (List.length x.2.1) c1, .slice A2 (List.length x.2.2.1) c2, .int .i64 x.2.2.2.1, .int .i64 x.2.2.2.2] 34)).cell? ⟨w.heap.size, 4, none⟩ = some (.int .i64 x.2.2.2.2) := cell_new w _ _ 4 rfl
  have hvb : Below w.heap.size w (w.alloc (.cells #[.slice A0 (List.length x.1) c0, .slice A1 (List.length x.2.1) c1, .slice A2 (List.length x.2.2.1) c2, .int .i64 x.2.2.2.1, .int .i64 x.2.2.2.2] 34)) := (by repeat' (first | (with_reducible exact Below.refl _ _) | (with_reducible assumption) | (with_reducible refine bel_set ?_ (by (try dsimp only); omega) _) | (with_reducible refine bel_alloc ?_ _) | (with_reducible refine bel_drewN ?_ _) | (with_reducible refine bel_drew ?_)))
  have hzb : w.heap.size < (w.alloc (.cells #[.slice A0 (List.length x.1) c0, .slice A1 (List.length x.2.1) c1, .slice A2 (List.length x.2.2.1) c2, .int .i64 x.2.2.2.1, .int .i64 x.2.2.2.2] 34)).heap.size := by rw [World.size_alloc]; omega
  have hF : f_VerifyData a x = (inR a 1 2147483646 && decide (x.2.2.2.2 = mac a (f_SignedPortion x))) := rfl
  generalize f_VerifyData a x = F at hF ⊢
  have HF := Lib.hid hF
  clear hF
  have HLS := Lib.hid (signed_len s0)
  go_enter Tryz.func100, Tryz.ntmps100
  go_wp2_with fail
  generalize w.alloc (.cells #[.slice A0 (List.length x.1) c0, .slice A1 (List.length x.2.1) c1, .slice A2 (List.length x.2.2.1) c2, .int .i64 x.2.2.2.1, .int .i64 x.2.2.2.2] 34) = WB at kb0 kb1 kb2 kb3 kb4 hvb hzb ⊢
  have HS : Hid (∀ W, Below WB.heap.size WB W → Below w.heap.size w W ∧ W.cell? ⟨w.heap.size, 0, none⟩ = some (.slice A0 (List.length x.1) c0) ∧ W.cell? ⟨w.heap.size, 1, none⟩ = some (.slice A1 (List.length x.2.1) c1) ∧ W.cell? ⟨w.heap.size, 2, none⟩ = some (.slice A2 (List.length x.2.2.1) c2) ∧ W.cell? ⟨w.heap.size, 3, none⟩ = some (.int .i64 x.2.2.2.1) ∧ W.cell? ⟨w.heap.size, 4, none⟩ = some (.int .i64 x.2.2.2.2)) := fun W hW => ⟨bel_trans hvb hW, (hW.cell (p := ⟨w.heap.size, 0, none⟩) hzb).trans kb0, (hW.cell (p := ⟨w.heap.size, 1, none⟩) hzb).trans kb1, (hW.cell (p := ⟨w.heap.size, 2, none⟩) hzb).trans kb2, (hW.cell (p := ⟨w.heap.size, 3, none⟩) hzb).trans kb3, (hW.cell (p := ⟨w.heap.size, 4, none⟩) hzb).trans kb4⟩
  clear kb0 kb1 kb2 kb3 kb4
  cases q0 : inR a 1 2147483646
  · rw [q0] at HF
    go_wp2_with fail
    refine wp_region_noPanic ?_
    refine wp_region_held_drew (S := (fun W => Below w.heap.size w W ∧ W.cell? ⟨w.heap.size, 0, none⟩ = some (.slice A0 (List.length x.1) c0) ∧ W.cell? ⟨w.heap.size, 1, none⟩ = some (.slice A1 (List.length x.2.1) c1) ∧ W.cell? ⟨w.heap.size, 2, none⟩ = some (.slice A2 (List.length x.2.2.1) c2) ∧ W.cell? ⟨w.heap.size, 3, none⟩ = some (.int .i64 x.2.2.2.1) ∧ W.cell? ⟨w.heap.size, 4, none⟩ = some (.int .i64 x.2.2.2.2))) (by kernel_rfl) ?_ (fun hHeld => ?_)
    · exact HS.out _ (by (repeat' (first | (with_reducible exact Below.refl _ _) | (with_reducible assumption) | (with_reducible refine bel_set ?_ (by (try dsimp only); omega) _) | (with_reducible refine bel_alloc ?_ _) | (with_reducible refine bel_drewN ?_ _) | (with_reducible refine bel_drew ?_) | (with_reducible refine bel_trans ?_ (by assumption)))); done)
    refine tk 0 (opN rfl) (by kernel_rfl) (by rfl) (by (intro w hSw; (try dsimp only at hSw); go_simp; first | done | with_reducible rfl)) (by assumption) ?_
    try simp only [Act.put, List.setIfInBounds_toArray, List.set_cons_zero, List.set_cons_succ]
    refine wpAnyH_ready (rs := [1]) (by kernel_rfl) (by simp) ?_
    refine AllReadyH.cons (opN rfl) (fun K hK => ?_) AllReadyH.nil
    go_simp
    go_at_call 104
    refine (C_spec_ValidSecret _ _).mono ?_
    rw [q0]
    rintro e w2 ⟨rfl, hw2⟩
    subst hw2
    refine hK.out _ _ ?_ (fun hHeld => ?_)
    · (try dsimp only)
      exact HS.out _ (by (repeat' (first | (with_reducible exact Below.refl _ _) | (with_reducible assumption) | (with_reducible refine bel_set ?_ (by (try dsimp only); omega) _) | (with_reducible refine bel_alloc ?_ _) | (with_reducible refine bel_drewN ?_ _) | (with_reducible refine bel_drew ?_) | (with_reducible refine bel_trans ?_ (by assumption)))); done)
    clear hK K
    try simp only [Act.put, List.setIfInBounds_toArray, List.set_cons_zero, List.set_cons_succ]
    refine tk 2 (opN rfl) (by kernel_rfl) (by rfl) (by (intro w hSw; (try dsimp only at hSw); go_simp; first | done | with_reducible rfl)) (by assumption) ?_
    try simp only [Act.put, List.setIfInBounds_toArray, List.set_cons_zero, List.set_cons_succ]
    refine sk 3 (opN rfl) (by kernel_rfl) (by rfl) (by assumption) ?_
    try simp only [Act.put, List.setIfInBounds_toArray, List.set_cons_zero, List.set_cons_succ]
    refine sk 4 (opN rfl) (by kernel_rfl) (by rfl) (by assumption) ?_
    try simp only [Act.put, List.setIfInBounds_toArray, List.set_cons_zero, List.set_cons_succ]
    refine sk 5 (opN rfl) (by kernel_rfl) (by rfl) (by assumption) ?_
    try simp only [Act.put, List.setIfInBounds_toArray, List.set_cons_zero, List.set_cons_succ]
    refine sk 6 (opN rfl) (by kernel_rfl) (by rfl) (by assumption) ?_
    try simp only [Act.put, List.setIfInBounds_toArray, List.set_cons_zero, List.set_cons_succ]
    refine sk 7 (opN rfl) (by kernel_rfl) (by rfl) (by assumption) ?_
    try simp only [Act.put, List.setIfInBounds_toArray, List.set_cons_zero, List.set_cons_succ]
    refine sk 8 (opN rfl) (by kernel_rfl) (by rfl) (by assumption) ?_
    try simp only [Act.put, List.setIfInBounds_toArray, List.set_cons_zero, List.set_cons_succ]
    refine sk 9 (opN rfl) (by kernel_rfl) (by rfl) (by assumption) ?_
    try simp only [Act.put, List.setIfInBounds_toArray, List.set_cons_zero, List.set_cons_succ]
    refine tk 10 (opN rfl) (by kernel_rfl) (by rfl) (by (intro w hSw; (try dsimp only at hSw); go_simp; first | done | with_reducible rfl)) (by assumption) ?_
    try simp only [Act.put, List.setIfInBounds_toArray, List.set_cons_zero, List.set_cons_succ]
    refine tk 11 (opN rfl) (by kernel_rfl) (by rfl) (by (intro w hSw; (try dsimp only at hSw); go_simp; first | done | with_reducible rfl)) (by assumption) ?_
    try simp only [Act.put, List.setIfInBounds_toArray, List.set_cons_zero, List.set_cons_succ]
    refine wpAnyH_done (by kernel_rfl) ?_ _
    refine NoPanic.normal ?_
    go_wp2
    go_ret
    exact ⟨ret_bool (by rw [HF.out]; rfl), (by (repeat' (first | (with_reducible exact Below.refl _ _) | (with_reducible assumption) | (with_reducible refine bel_set ?_ (by (try dsimp only); omega) _) | (with_reducible refine bel_alloc ?_ _) | (with_reducible refine bel_drewN ?_ _) | (with_reducible refine bel_drew ?_) | (with_reducible refine bel_trans ?_ (by assumption)))); done)⟩
  · rw [q0] at HF
    go_wp2_with fail
    refine wp_region_noPanic ?_
    refine wp_region_held_drew (S := (fun W => Below w.heap.size w W ∧ W.cell? ⟨w.heap.size, 0, none⟩ = some (.slice A0 (List.length x.1) c0) ∧ W.cell? ⟨w.heap.size, 1, none⟩ = some (.slice A1 (List.length x.2.1) c1) ∧ W.cell? ⟨w.heap.size, 2, none⟩ = some (.slice A2 (List.length x.2.2.1) c2) ∧ W.cell? ⟨w.heap.size, 3, none⟩ = some (.int .i64 x.2.2.2.1) ∧ W.cell? ⟨w.heap.size, 4, none⟩ = some (.int .i64 x.2.2.2.2))) (by kernel_rfl) ?_ (fun hHeld => ?_)
    · exact HS.out _ (by (repeat' (first | (with_reducible exact Below.refl _ _) | (with_reducible assumption) | (with_reducible refine bel_set ?_ (by (try dsimp only); omega) _) | (with_reducible refine bel_alloc ?_ _) | (with_reducible refine bel_drewN ?_ _) | (with_reducible refine bel_drew ?_) | (with_reducible refine bel_trans ?_ (by assumption)))); done)
    refine tk 0 (opN rfl) (by kernel_rfl) (by rfl) (by (intro w hSw; (try dsimp only at hSw); go_simp; first | done | with_reducible rfl)) (by assumption) ?_
    try simp only [Act.put, List.setIfInBounds_toArray, List.set_cons_zero, List.set_cons_succ]
    refine wpAnyH_ready (rs := [1]) (by kernel_rfl) (by simp) ?_
    refine AllReadyH.cons (opN rfl) (fun K hK => ?_) AllReadyH.nil
    go_simp
    go_at_call 104
    refine (C_spec_ValidSecret _ _).mono ?_
    rw [q0]
    rintro e w2 ⟨rfl, hw2⟩
    subst hw2
    refine hK.out _ _ ?_ (fun hHeld => ?_)
    · (try dsimp only)
      exact HS.out _ (by (repeat' (first | (with_reducible exact Below.refl _ _) | (with_reducible assumption) | (with_reducible refine bel_set ?_ (by (try dsimp only); omega) _) | (with_reducible refine bel_alloc ?_ _) | (with_reducible refine bel_drewN ?_ _) | (with_reducible refine bel_drew ?_) | (with_reducible refine bel_trans ?_ (by assumption)))); done)
    clear hK K
    try simp only [Act.put, List.setIfInBounds_toArray, List.set_cons_zero, List.set_cons_succ]
    refine tk 2 (opN rfl) (by kernel_rfl) (by rfl) (by (intro w hSw; (try dsimp only at hSw); go_simp; first | done | with_reducible rfl)) (by assumption) ?_
    try simp only [Act.put, List.setIfInBounds_toArray, List.set_cons_zero, List.set_cons_succ]
    refine tk 3 (opN rfl) (by kernel_rfl) (by rfl) (by (intro w hSw; (try dsimp only at hSw); go_simp; first | done | with_reducible rfl)) (by assumption) ?_
    try simp only [Act.put, List.setIfInBounds_toArray, List.set_cons_zero, List.set_cons_succ]
    refine tk 4 (opN rfl) (by kernel_rfl) (by rfl) (by (intro w hSw; (try dsimp only at hSw); go_simp; first | done | with_reducible rfl)) (by assumption) ?_
    try simp only [Act.put, List.setIfInBounds_toArray, List.set_cons_zero, List.set_cons_succ]
    refine tk 5 (opN rfl) (by kernel_rfl) (by rfl) (by (intro w hSw; (try dsimp only at hSw); go_simp; first | done | with_reducible rfl)) (by assumption) ?_
    try simp only [Act.put, List.setIfInBounds_toArray, List.set_cons_zero, List.set_cons_succ]
    refine tk 6 (opN rfl) (by kernel_rfl) (by rfl) (by (intro w hSw; (try dsimp only at hSw); go_simp; first | done | with_reducible rfl)) (by assumption) ?_
    try simp only [Act.put, List.setIfInBounds_toArray, List.set_cons_zero, List.set_cons_succ]
    refine wpAnyH_ready (rs := [7]) (by kernel_rfl) (by simp) ?_
    refine AllReadyH.cons (opN rfl) (fun K hK => ?_) AllReadyH.nil
    go_simp
    go_at_call 141
    refine (C_spec_SignedPortion _ _ x (Ty.rd_below (by (repeat' (first | (with_reducible exact Below.refl _ _) | (with_reducible assumption) | (with_reducible refine bel_set ?_ (by (try dsimp only); omega) _) | (with_reducible refine bel_alloc ?_ _) | (with_reducible refine bel_drewN ?_ _) | (with_reducible refine bel_drew ?_) | (with_reducible refine bel_trans ?_ (by assumption)))); done) (Ty.rd_below hvb h)) s0).mono ?_
    rintro e w3 ⟨v3, rfl, hr3, hb3⟩
    have HR3 := Lib.hid hr3
    clear hr3
    refine hK.out _ _ ?_ (fun hHeld => ?_)
    · (try dsimp only)
      exact HS.out _ (by (repeat' (first | (with_reducible exact Below.refl _ _) | (with_reducible assumption) | (with_reducible refine bel_set ?_ (by (try dsimp only); omega) _) | (with_reducible refine bel_alloc ?_ _) | (with_reducible refine bel_drewN ?_ _) | (with_reducible refine bel_drew ?_) | (with_reducible refine bel_trans ?_ (by assumption)))); done)
    clear hK K
    try simp only [Act.put, List.setIfInBounds_toArray, List.set_cons_zero, List.set_cons_succ]
    refine wpAnyH_ready (rs := [8]) (by kernel_rfl) (by simp) ?_
    refine AllReadyH.cons (opN rfl) (fun K hK => ?_) AllReadyH.nil
    go_simp
    go_at_call 140
    refine (C_spec_ComputeMAC _ _ a (f_SignedPortion x) i0 (HR3.out.rd hb3.size) (Nat.le_trans HLS.out (by decide))).mono ?_
    rintro e w4 ⟨rfl, hb4⟩
    refine hK.out _ _ ?_ (fun hHeld => ?_)
    · (try dsimp only)
      exact HS.out _ (by (repeat' (first | (with_reducible exact Below.refl _ _) | (with_reducible assumption) | (with_reducible refine bel_set ?_ (by (try dsimp only); omega) _) | (with_reducible refine bel_alloc ?_ _) | (with_reducible refine bel_drewN ?_ _) | (with_reducible refine bel_drew ?_) | (with_reducible refine bel_trans ?_ (by assumption)))); done)
    clear hK K
    try simp only [Act.put, List.setIfInBounds_toArray, List.set_cons_zero, List.set_cons_succ]
    refine tk 9 (opN rfl) (by kernel_rfl) (by rfl) (by (intro w hSw; (try dsimp only at hSw); go_simp; first | done | with_reducible rfl)) (by assumption) ?_
    try simp only [Act.put, List.setIfInBounds_toArray, List.set_cons_zero, List.set_cons_succ]
    refine tk 10 (opN rfl) (by kernel_rfl) (by rfl) (by (intro w hSw; (try dsimp only at hSw); go_simp; first | done | with_reducible rfl)) (by assumption) ?_
    try simp only [Act.put, List.setIfInBounds_toArray, List.set_cons_zero, List.set_cons_succ]
    refine tk 11 (opN rfl) (by kernel_rfl) (by rfl) (by (intro w hSw; (try dsimp only at hSw); go_simp; first | done | with_reducible rfl)) (by assumption) ?_
    try simp only [Act.put, List.setIfInBounds_toArray, List.set_cons_zero, List.set_cons_succ]
    refine wpAnyH_done (by kernel_rfl) ?_ _
    refine NoPanic.normal ?_
    go_wp2
    go_ret
    exact ⟨ret_bool (by rw [HF.out]; (rw [Bool.eq_iff_iff]; simp)), (by (repeat' (first | (with_reducible exact Below.refl _ _) | (with_reducible assumption) | (with_reducible refine bel_set ?_ (by (try dsimp only); omega) _) | (with_reducible refine bel_alloc ?_ _) | (with_reducible refine bel_drewN ?_ _) | (with_reducible refine bel_drew ?_) | (with_reducible refine bel_trans ?_ (by assumption)))); done)⟩
end Go.Proofs.YtldgbnlcnlfmeaaGreat

/- Data are signed. Printed by gen23.py. -/
namespace Go.Proofs.YtldgbnlcnlfmeaaGreat
open Go.RowKit
set_option linter.unusedVariables false
set_option linter.unusedSimpArgs false

def signed (x : tData.D) (m : Int) : tData.D := (x.1, x.2.1, x.2.2.1, x.2.2.2.1, m)
def f_SignData (a : Int) (x : tData.D) : tData.D := signed x (mac a (f_SignedPortion x))
theorem mac_bd (a : Int) (l : List Int) : -9223372036854775808 ≤ mac a l ∧ mac a l ≤ 9223372036854775807 := by
  have := digest_le (a :: (l ++ [a]))
  unfold mac; omega
theorem ow_Data_parts {w : World} {cs : List Value} {x : tData.D} {fp : List Nat} (h : tData.ow w cs x fp) : ∃ (A0 : Option Addr) (c0 : Nat) (A1 : Option Addr) (c1 : Nat) (A2 : Option Addr) (c2 : Nat) (f0 f1 f2 : List Nat),
    cs = [.slice A0 (List.length x.1) c0, .slice A1 (List.length x.2.1) c1, .slice A2 (List.length x.2.2.1) c2, .int .i64 x.2.2.2.1, .int .i64 x.2.2.2.2] ∧ fp = (f0 ++ (f1 ++ (f2 ++ ([] ++ [])))) ∧
    (Ty.sl .str).ow w [.slice A0 (List.length x.1) c0] x.1 f0 ∧ (Ty.sl .byte).ow w [.slice A1 (List.length x.2.1) c1] x.2.1 f1 ∧ (Ty.sl .str).ow w [.slice A2 (List.length x.2.2.1) c2] x.2.2.1 f2 ∧
    (-9223372036854775808 ≤ x.2.2.2.1 ∧ x.2.2.2.1 ≤ 9223372036854775807) ∧ (-9223372036854775808 ≤ x.2.2.2.2 ∧ x.2.2.2.2 ≤ 9223372036854775807) := by
  obtain ⟨p0, r0, f0, q0, rfl, rfl, h0, p1, r1, f1, q1, rfl, rfl, h1, p2, r2, f2, q2, rfl, rfl, h2, p3, r3, f3, q3, rfl, rfl, ⟨⟨rfl, b3⟩, rfl⟩, ⟨⟨rfl, b4⟩, rfl⟩⟩ := h
  obtain ⟨A0, c0, rfl⟩ := Ty.ow_slv h0
  obtain ⟨A1, c1, rfl⟩ := Ty.ow_slv h1
  obtain ⟨A2, c2, rfl⟩ := Ty.ow_slv h2
  exact ⟨A0, c0, A1, c1, A2, c2, f0, f1, f2, rfl, rfl, h0, h1, h2, b3, b4⟩
theorem ow_signed {w : World} {x : tData.D} {A0 A1 A2 : Option Addr} {c0 c1 c2 : Nat} {fp : List Nat} {m : Int} (h : tData.ow w [.slice A0 (List.length x.1) c0, .slice A1 (List.length x.2.1) c1, .slice A2 (List.length x.2.2.1) c2, .int .i64 x.2.2.2.1, .int .i64 x.2.2.2.2] x fp) (hm : -9223372036854775808 ≤ m ∧ m ≤ 9223372036854775807) :
    tData.ow w [.slice A0 (List.length x.1) c0, .slice A1 (List.length x.2.1) c1, .slice A2 (List.length x.2.2.1) c2, .int .i64 x.2.2.2.1, .int .i64 m] (signed x m) fp := by
  obtain ⟨B0, d0, B1, d1, B2, d2, f0, f1, f2, he, rfl, h0, h1, h2, b3, b4⟩ := ow_Data_parts h
  simp only [List.cons.injEq, Value.slice.injEq, and_true, true_and] at he
  obtain ⟨⟨rfl, rfl⟩, ⟨rfl, rfl⟩, rfl, rfl⟩ := he
  exact ow_Data_mk (x := signed x m) h0 h1 h2 b3 hm
set_option maxRecDepth 100000 in
set_option maxHeartbeats 2000000 in
theorem C_impl_SignDataB (w : World) (a : Int) (cs : List Value) (x : tData.D) (h : tData.rd w cs x) (i0 : -9223372036854775808 ≤ a ∧ a ≤ 9223372036854775807) (s0 : Ty.bulk tData x ≤ 4000000) :
    Calls Tryz.prog 92 #[.int .i64 a, .agg cs.toArray] w (RetAgg w tData (f_SignData a x)) := by
  have h' := h
  obtain ⟨As0, cs0, As1, cs1, As2, cs2, rfl, sg0, sg1, sg2, sg3, sg4⟩ := rd_Data h
  have HMB := Lib.hid (mac_bd a (f_SignedPortion x))
  have HLS := Lib.hid (signed_lenB s0)
  have HF := Lib.hid (show f_SignData a x = signed x (mac a (f_SignedPortion x)) from rfl)
  go_enter Tryz.func92, Tryz.ntmps92
  go_wp2_with fail
  refine (C_impl_copyData _ _ x (Ty.rd_below (by repeat' (first | (with_reducible exact Below.refl _ _) | (with_reducible assumption) | (with_reducible refine bel_set ?_ (by (try dsimp only); omega) _) | (with_reducible refine bel_alloc ?_ _) | (with_reducible refine bel_drewN ?_ _) | (with_reducible refine bel_drew ?_))) h') (by omega)).mono ?_
  rintro e w0 ⟨cs0, fp0, rfl, how0, hfr0, hb0⟩
  obtain ⟨Ad0, cd0, Ad1, cd1, Ad2, cd2, rfl⟩ := ow_Data how0
  have hz0 := hb0.size
  simp only [World.size_alloc] at hz0
  have hw0 : Below w.heap.size w w0 := bel_trans (by repeat' (first | (with_reducible exact Below.refl _ _) | (with_reducible assumption) | (with_reducible refine bel_set ?_ (by (try dsimp only); omega) _) | (with_reducible refine bel_alloc ?_ _) | (with_reducible refine bel_drewN ?_ _) | (with_reducible refine bel_drew ?_))) hb0
  have hB0 : Blk w0 (w.heap.size) 34 #[.slice As0 (List.length x.1) cs0, .slice As1 (List.length x.2.1) cs1, .slice As2 (List.length x.2.2.1) cs2, .int .i64 x.2.2.2.1, .int .i64 x.2.2.2.2] := ((Blk.new w 34 #[.slice As0 (List.length x.1) cs0, .slice As1 (List.length x.2.1) cs1, .slice As2 (List.length x.2.2.1) cs2, .int .i64 x.2.2.2.1, .int .i64 x.2.2.2.2]).alloc _).below hb0 (by simp only [World.size_alloc]; omega)
  have hR0 : Blk w0 (w.heap.size + 1) 34 #[.slice none 0 0, .slice none 0 0, .slice none 0 0, .int .i64 0, .int .i64 0] := (show Blk ((w.alloc (.cells #[.slice As0 (List.length x.1) cs0, .slice As1 (List.length x.2.1) cs1, .slice As2 (List.length x.2.2.1) cs2, .int .i64 x.2.2.2.1, .int .i64 x.2.2.2.2] 34)).alloc (.cells #[.slice none 0 0, .slice none 0 0, .slice none 0 0, .int .i64 0, .int .i64 0] 34)) (w.heap.size + 1) 34 #[.slice none 0 0, .slice none 0 0, .slice none 0 0, .int .i64 0, .int .i64 0] from by have := Blk.new (w.alloc (.cells #[.slice As0 (List.length x.1) cs0, .slice As1 (List.length x.2.1) cs1, .slice As2 (List.length x.2.2.1) cs2, .int .i64 x.2.2.2.1, .int .i64 x.2.2.2.2] 34)) 34 #[.slice none 0 0, .slice none 0 0, .slice none 0 0, .int .i64 0, .int .i64 0]; rwa [World.size_alloc] at this).below hb0 (by simp only [World.size_alloc]; omega)
  have kB_0_0 : w0.cell? ⟨w.heap.size, 0, none⟩ = some (.slice As0 (List.length x.1) cs0) := hB0.cell 0
  have kB_0_1 : w0.cell? ⟨w.heap.size, 1, none⟩ = some (.slice As1 (List.length x.2.1) cs1) := hB0.cell 1
  have kB_0_2 : w0.cell? ⟨w.heap.size, 2, none⟩ = some (.slice As2 (List.length x.2.2.1) cs2) := hB0.cell 2
  have kB_0_3 : w0.cell? ⟨w.heap.size, 3, none⟩ = some (.int .i64 x.2.2.2.1) := hB0.cell 3
  have kB_0_4 : w0.cell? ⟨w.heap.size, 4, none⟩ = some (.int .i64 x.2.2.2.2) := hB0.cell 4
  have zB_0 : w.heap.size < w0.heap.size := hB0.lt
  go_wp2_with fail
  refine (C_impl_SignedPortionB _ _ x (Ty.rd_below (bel_alloc hw0 _) h') s0).mono ?_
  rintro e w1 ⟨v1, rfl, hr1, hb1⟩
  have hz1 := hb1.size
  simp only [World.size_alloc] at hz1
  have hw1 : Below w.heap.size w w1 := bel_trans (bel_alloc hw0 _) hb1
  have HR1 := Lib.hid (hr1.rd hb1.size)
  clear hr1
  clear kB_0_0 kB_0_1 kB_0_2 kB_0_3 kB_0_4
  have hR1 : Blk w1 (w.heap.size + 1) 34 #[.slice none 0 0, .slice none 0 0, .slice none 0 0, .int .i64 0, .int .i64 0] := (hR0.alloc _).below hb1 (by simp only [World.size_alloc]; omega)
  have hO1 : Blk w1 w0.heap.size 34 #[.slice Ad0 (List.length x.1) cd0, .slice Ad1 (List.length x.2.1) cd1, .slice Ad2 (List.length x.2.2.1) cd2, .int .i64 x.2.2.2.1, .int .i64 x.2.2.2.2] := (Blk.new w0 34 #[.slice Ad0 (List.length x.1) cd0, .slice Ad1 (List.length x.2.1) cd1, .slice Ad2 (List.length x.2.2.1) cd2, .int .i64 x.2.2.2.1, .int .i64 x.2.2.2.2]).below hb1 (by simp only [World.size_alloc]; omega)
  go_wp2_with fail
  refine (C_impl_ComputeMAC _ _ a (f_SignedPortion x) i0 HR1.out (Nat.le_trans HLS.out (by decide))).mono ?_
  rintro e w2 ⟨rfl, hb2⟩
  have hz2 := hb2.size
  have hw2 : Below w.heap.size w w2 := bel_trans hw1 hb2
  have hR2 : Blk w2 (w.heap.size + 1) 34 #[.slice none 0 0, .slice none 0 0, .slice none 0 0, .int .i64 0, .int .i64 0] := hR1.below hb2 (by omega)
  have hO2 : Blk w2 w0.heap.size 34 #[.slice Ad0 (List.length x.1) cd0, .slice Ad1 (List.length x.2.1) cd1, .slice Ad2 (List.length x.2.2.1) cd2, .int .i64 x.2.2.2.1, .int .i64 x.2.2.2.2] := hO1.below hb2 (by omega)
  have kR_2_0 : w2.cell? ⟨w.heap.size + 1, 0, none⟩ = some (.slice none 0 0) := hR2.cell 0
  have fR_2_0 : w2.frozen? ⟨w.heap.size + 1, 0, none⟩ = false := hR2.frozen 0
  have kR_2_1 : w2.cell? ⟨w.heap.size + 1, 1, none⟩ = some (.slice none 0 0) := hR2.cell 1
  have fR_2_1 : w2.frozen? ⟨w.heap.size + 1, 1, none⟩ = false := hR2.frozen 1
  have kR_2_2 : w2.cell? ⟨w.heap.size + 1, 2, none⟩ = some (.slice none 0 0) := hR2.cell 2
  have fR_2_2 : w2.frozen? ⟨w.heap.size + 1, 2, none⟩ = false := hR2.frozen 2
  have kR_2_3 : w2.cell? ⟨w.heap.size + 1, 3, none⟩ = some (.int .i64 0) := hR2.cell 3
  have fR_2_3 : w2.frozen? ⟨w.heap.size + 1, 3, none⟩ = false := hR2.frozen 3
  have kR_2_4 : w2.cell? ⟨w.heap.size + 1, 4, none⟩ = some (.int .i64 0) := hR2.cell 4
  have fR_2_4 : w2.frozen? ⟨w.heap.size + 1, 4, none⟩ = false := hR2.frozen 4
  have zR_2 : w.heap.size + 1 < w2.heap.size := hR2.lt
  have kO_2_0 : w2.cell? ⟨w0.heap.size, 0, none⟩ = some (.slice Ad0 (List.length x.1) cd0) := hO2.cell 0
  have fO_2_0 : w2.frozen? ⟨w0.heap.size, 0, none⟩ = false := hO2.frozen 0
  have kO_2_1 : w2.cell? ⟨w0.heap.size, 1, none⟩ = some (.slice Ad1 (List.length x.2.1) cd1) := hO2.cell 1
  have fO_2_1 : w2.frozen? ⟨w0.heap.size, 1, none⟩ = false := hO2.frozen 1
  have kO_2_2 : w2.cell? ⟨w0.heap.size, 2, none⟩ = some (.slice Ad2 (List.length x.2.2.1) cd2) := hO2.cell 2
  have fO_2_2 : w2.frozen? ⟨w0.heap.size, 2, none⟩ = false := hO2.frozen 2
  have kO_2_3 : w2.cell? ⟨w0.heap.size, 3, none⟩ = some (.int .i64 x.2.2.2.1) := hO2.cell 3
  have fO_2_3 : w2.frozen? ⟨w0.heap.size, 3, none⟩ = false := hO2.frozen 3
  have kO_2_4 : w2.cell? ⟨w0.heap.size, 4, none⟩ = some (.int .i64 x.2.2.2.2) := hO2.cell 4
  have fO_2_4 : w2.frozen? ⟨w0.heap.size, 4, none⟩ = false := hO2.frozen 4
  have zO_2 : w0.heap.size < w2.heap.size := hO2.lt
  go_wp2
  refine bodyPost_ret (v := .agg #[.slice Ad0 (List.length x.1) cd0, .slice Ad1 (List.length x.2.1) cd1, .slice Ad2 (List.length x.2.2.1) cd2, .int .i64 x.2.2.2.1, .int .i64 (mac a (f_SignedPortion x))]) (by simp [results, Tryz.results92, go_sem, kR_2_0, fR_2_0, kR_2_1, fR_2_1, kR_2_2, fR_2_2, kR_2_3, fR_2_3, kR_2_4, fR_2_4, kO_2_0, fO_2_0, kO_2_1, fO_2_1, kO_2_2, fO_2_2, kO_2_3, fO_2_3, kO_2_4, fO_2_4]) rfl ?_
  rw [HF.out]
  exact ⟨_, fp0, rfl, ow_signed (Ty.ow_keep (by intro b hb'; have hb'' := (hfr0).2 b hb'; (try simp only [World.size_alloc, World.size_setCell, size_drewN, World.size_drew] at hb''); repeat (first | (with_reducible rfl) | (rw [Below.heap_setCell _ _ _ _ (by (try dsimp only); omega)]) | (rw [Below.heap_alloc _ _ _ (by (try simp only [World.size_alloc, World.size_setCell]); omega)]) | (rw [hb2.block _ (by (try simp only [World.size_alloc, World.size_setCell, size_drewN, World.size_drew]); omega)]) | (rw [hb1.block _ (by (try simp only [World.size_alloc, World.size_setCell, size_drewN, World.size_drew]); omega)]))) how0) HMB.out, hfr0.mono (by simp only [World.size_alloc]; omega) (by (try simp only [World.size_alloc, World.size_setCell, size_drewN, World.size_drew]); omega), (by repeat' (first | (with_reducible exact Below.refl _ _) | (with_reducible assumption) | (with_reducible refine bel_set ?_ (by (try dsimp only); omega) _) | (with_reducible refine bel_alloc ?_ _) | (with_reducible refine bel_drewN ?_ _) | (with_reducible refine bel_drew ?_)))⟩
set_option maxRecDepth 100000 in
set_option maxHeartbeats 2000000 in
theorem C_spec_SignDataB (w : World) (a : Int) (cs : List Value) (x : tData.D) (h : tData.rd w cs x) (i0 : -9223372036854775808 ≤ a ∧ a ≤ 9223372036854775807) (s0 : Ty.bulk tData x ≤ 4000000) :
    Calls Tryz.prog 96 #[.int .i64 a, .agg cs.toArray] w (RetAgg w tData (f_SignData a x)) := by
  have h' := h
  obtain ⟨As0, cs0, As1, cs1, As2, cs2, rfl, sg0, sg1, sg2, sg3, sg4⟩ := rd_Data h
  have HMB := Lib.hid (mac_bd a (f_SignedPortion x))
  have HLS := Lib.hid (signed_lenB s0)
  have HF := Lib.hid (show f_SignData a x = signed x (mac a (f_SignedPortion x)) from rfl)
  go_enter Tryz.func96, Tryz.ntmps96
  go_wp2_with fail
  refine (C_spec_l8Copy _ _ x (Ty.rd_below (by repeat' (first | (with_reducible exact Below.refl _ _) | (with_reducible assumption) | (with_reducible refine bel_set ?_ (by (try dsimp only); omega) _) | (with_reducible refine bel_alloc ?_ _) | (with_reducible refine bel_drewN ?_ _) | (with_reducible refine bel_drew ?_))) h') (by omega)).mono ?_
  rintro e w0 ⟨cs0, fp0, rfl, how0, hfr0, hb0⟩
  obtain ⟨Ad0, cd0, Ad1, cd1, Ad2, cd2, rfl⟩ := ow_Data how0
  have hz0 := hb0.size
  simp only [World.size_alloc] at hz0
  have hw0 : Below w.heap.size w w0 := bel_trans (by repeat' (first | (with_reducible exact Below.refl _ _) | (with_reducible assumption) | (with_reducible refine bel_set ?_ (by (try dsimp only); omega) _) | (with_reducible refine bel_alloc ?_ _) | (with_reducible refine bel_drewN ?_ _) | (with_reducible refine bel_drew ?_))) hb0
  have hB0 : Blk w0 (w.heap.size) 34 #[.slice As0 (List.length x.1) cs0, .slice As1 (List.length x.2.1) cs1, .slice As2 (List.length x.2.2.1) cs2, .int .i64 x.2.2.2.1, .int .i64 x.2.2.2.2] := ((Blk.new w 34 #[.slice As0 (List.length x.1) cs0, .slice As1 (List.length x.2.1) cs1, .slice As2 (List.length x.2.2.1) cs2, .int .i64 x.2.2.2.1, .int .i64 x.2.2.2.2]).alloc _).below hb0 (by simp only [World.size_alloc]; omega)
  have hR0 : Blk w0 (w.heap.size + 1) 34 #[.slice none 0 0, .slice none 0 0, .slice none 0 0, .int .i64 0, .int .i64 0] := (show Blk ((w.alloc (.cells #[.slice As0 (List.length x.1) cs0, .slice As1 (List.length x.2.1) cs1, .slice As2 (List.length x.2.2.1) cs2, .int .i64 x.2.2.2.1, .int .i64 x.2.2.2.2] 34)).alloc (.cells #[.slice none 0 0, .slice none 0 0, .slice none 0 0, .int .i64 0, .int .i64 0] 34)) (w.heap.size + 1) 34 #[.slice none 0 0, .slice none 0 0, .slice none 0 0, .int .i64 0, .int .i64 0] from by have := Blk.new (w.alloc (.cells #[.slice As0 (List.length x.1) cs0, .slice As1 (List.length x.2.1) cs1, .slice As2 (List.length x.2.2.1) cs2, .int .i64 x.2.2.2.1, .int .i64 x.2.2.2.2] 34)) 34 #[.slice none 0 0, .slice none 0 0, .slice none 0 0, .int .i64 0, .int .i64 0]; rwa [World.size_alloc] at this).below hb0 (by simp only [World.size_alloc]; omega)
  have kB_0_0 : w0.cell? ⟨w.heap.size, 0, none⟩ = some (.slice As0 (List.length x.1) cs0) := hB0.cell 0
  have kB_0_1 : w0.cell? ⟨w.heap.size, 1, none⟩ = some (.slice As1 (List.length x.2.1) cs1) := hB0.cell 1
  have kB_0_2 : w0.cell? ⟨w.heap.size, 2, none⟩ = some (.slice As2 (List.length x.2.2.1) cs2) := hB0.cell 2
  have kB_0_3 : w0.cell? ⟨w.heap.size, 3, none⟩ = some (.int .i64 x.2.2.2.1) := hB0.cell 3
  have kB_0_4 : w0.cell? ⟨w.heap.size, 4, none⟩ = some (.int .i64 x.2.2.2.2) := hB0.cell 4
  have zB_0 : w.heap.size < w0.heap.size := hB0.lt
  go_wp2_with fail
  refine (C_spec_SignedPortionB _ _ x (Ty.rd_below (bel_alloc hw0 _) h') s0).mono ?_
  rintro e w1 ⟨v1, rfl, hr1, hb1⟩
  have hz1 := hb1.size
  simp only [World.size_alloc] at hz1
  have hw1 : Below w.heap.size w w1 := bel_trans (bel_alloc hw0 _) hb1
  have HR1 := Lib.hid (hr1.rd hb1.size)
  clear hr1
  clear kB_0_0 kB_0_1 kB_0_2 kB_0_3 kB_0_4
  have hR1 : Blk w1 (w.heap.size + 1) 34 #[.slice none 0 0, .slice none 0 0, .slice none 0 0, .int .i64 0, .int .i64 0] := (hR0.alloc _).below hb1 (by simp only [World.size_alloc]; omega)
  have hO1 : Blk w1 w0.heap.size 34 #[.slice Ad0 (List.length x.1) cd0, .slice Ad1 (List.length x.2.1) cd1, .slice Ad2 (List.length x.2.2.1) cd2, .int .i64 x.2.2.2.1, .int .i64 x.2.2.2.2] := (Blk.new w0 34 #[.slice Ad0 (List.length x.1) cd0, .slice Ad1 (List.length x.2.1) cd1, .slice Ad2 (List.length x.2.2.1) cd2, .int .i64 x.2.2.2.1, .int .i64 x.2.2.2.2]).below hb1 (by simp only [World.size_alloc]; omega)
  go_wp2_with fail
  refine (C_spec_ComputeMAC _ _ a (f_SignedPortion x) i0 HR1.out (Nat.le_trans HLS.out (by decide))).mono ?_
  rintro e w2 ⟨rfl, hb2⟩
  have hz2 := hb2.size
  have hw2 : Below w.heap.size w w2 := bel_trans hw1 hb2
  have hR2 : Blk w2 (w.heap.size + 1) 34 #[.slice none 0 0, .slice none 0 0, .slice none 0 0, .int .i64 0, .int .i64 0] := hR1.below hb2 (by omega)
  have hO2 : Blk w2 w0.heap.size 34 #[.slice Ad0 (List.length x.1) cd0, .slice Ad1 (List.length x.2.1) cd1, .slice Ad2 (List.length x.2.2.1) cd2, .int .i64 x.2.2.2.1, .int .i64 x.2.2.2.2] := hO1.below hb2 (by omega)
  have kR_2_0 : w2.cell? ⟨w.heap.size + 1, 0, none⟩ = some (.slice none 0 0) := hR2.cell 0
  have fR_2_0 : w2.frozen? ⟨w.heap.size + 1, 0, none⟩ = false := hR2.frozen 0
  have kR_2_1 : w2.cell? ⟨w.heap.size + 1, 1, none⟩ = some (.slice none 0 0) := hR2.cell 1
  have fR_2_1 : w2.frozen? ⟨w.heap.size + 1, 1, none⟩ = false := hR2.frozen 1
  have kR_2_2 : w2.cell? ⟨w.heap.size + 1, 2, none⟩ = some (.slice none 0 0) := hR2.cell 2
  have fR_2_2 : w2.frozen? ⟨w.heap.size + 1, 2, none⟩ = false := hR2.frozen 2
  have kR_2_3 : w2.cell? ⟨w.heap.size + 1, 3, none⟩ = some (.int .i64 0) := hR2.cell 3
  have fR_2_3 : w2.frozen? ⟨w.heap.size + 1, 3, none⟩ = false := hR2.frozen 3
  have kR_2_4 : w2.cell? ⟨w.heap.size + 1, 4, none⟩ = some (.int .i64 0) := hR2.cell 4
  have fR_2_4 : w2.frozen? ⟨w.heap.size + 1, 4, none⟩ = false := hR2.frozen 4
  have zR_2 : w.heap.size + 1 < w2.heap.size := hR2.lt
  have kO_2_0 : w2.cell? ⟨w0.heap.size, 0, none⟩ = some (.slice Ad0 (List.length x.1) cd0) := hO2.cell 0
  have fO_2_0 : w2.frozen? ⟨w0.heap.size, 0, none⟩ = false := hO2.frozen 0
  have kO_2_1 : w2.cell? ⟨w0.heap.size, 1, none⟩ = some (.slice Ad1 (List.length x.2.1) cd1) := hO2.cell 1
  have fO_2_1 : w2.frozen? ⟨w0.heap.size, 1, none⟩ = false := hO2.frozen 1
  have kO_2_2 : w2.cell? ⟨w0.heap.size, 2, none⟩ = some (.slice Ad2 (List.length x.2.2.1) cd2) := hO2.cell 2
  have fO_2_2 : w2.frozen? ⟨w0.heap.size, 2, none⟩ = false := hO2.frozen 2
  have kO_2_3 : w2.cell? ⟨w0.heap.size, 3, none⟩ = some (.int .i64 x.2.2.2.1) := hO2.cell 3
  have fO_2_3 : w2.frozen? ⟨w0.heap.size, 3, none⟩ = false := hO2.frozen 3
  have kO_2_4 : w2.cell? ⟨w0.heap.size, 4, none⟩ = some (.int .i64 x.2.2.2.2) := hO2.cell 4
  have fO_2_4 : w2.frozen? ⟨w0.heap.size, 4, none⟩ = false := hO2.frozen 4
  have zO_2 : w0.heap.size < w2.heap.size := hO2.lt
  go_wp2
  refine bodyPost_ret (v := .agg #[.slice Ad0 (List.length x.1) cd0, .slice Ad1 (List.length x.2.1) cd1, .slice Ad2 (List.length x.2.2.1) cd2, .int .i64 x.2.2.2.1, .int .i64 (mac a (f_SignedPortion x))]) (by simp [results, Tryz.results96, go_sem, kR_2_0, fR_2_0, kR_2_1, fR_2_1, kR_2_2, fR_2_2, kR_2_3, fR_2_3, kR_2_4, fR_2_4, kO_2_0, fO_2_0, kO_2_1, fO_2_1, kO_2_2, fO_2_2, kO_2_3, fO_2_3, kO_2_4, fO_2_4]) rfl ?_
  rw [HF.out]
  exact ⟨_, fp0, rfl, ow_signed (Ty.ow_keep (by intro b hb'; have hb'' := (hfr0).2 b hb'; (try simp only [World.size_alloc, World.size_setCell, size_drewN, World.size_drew] at hb''); repeat (first | (with_reducible rfl) | (rw [Below.heap_setCell _ _ _ _ (by (try dsimp only); omega)]) | (rw [Below.heap_alloc _ _ _ (by (try simp only [World.size_alloc, World.size_setCell]); omega)]) | (rw [hb2.block _ (by (try simp only [World.size_alloc, World.size_setCell, size_drewN, World.size_drew]); omega)]) | (rw [hb1.block _ (by (try simp only [World.size_alloc, World.size_setCell, size_drewN, World.size_drew]); omega)]))) how0) HMB.out, hfr0.mono (by simp only [World.size_alloc]; omega) (by (try simp only [World.size_alloc, World.size_setCell, size_drewN, World.size_drew]); omega), (by repeat' (first | (with_reducible exact Below.refl _ _) | (with_reducible assumption) | (with_reducible refine bel_set ?_ (by (try dsimp only); omega) _) | (with_reducible refine bel_alloc ?_ _) | (with_reducible refine bel_drewN ?_ _) | (with_reducible refine bel_drew ?_)))⟩
end Go.Proofs.YtldgbnlcnlfmeaaGreat

/- Signatures are verified. Printed by gen17.py. -/
namespace Go.Proofs.YtldgbnlcnlfmeaaGreat
open Go.RowKit
set_option linter.unusedVariables false
set_option linter.unusedSimpArgs false

def f_VerifySignature (l : List (Ty.D tKey)) (x : tData.D) : Bool := f_VerifyData (f_SecretOf l x.2.2.1) x
theorem keyName_bulk {x : tData.D} (s : Ty.bulk tData x ≤ 1048576) : Ty.bulk (.sl .str) x.2.2.1 ≤ 1048576 := by
  have h1 : Ty.bulk (.sl .str) x.1 + (Ty.bulk (.sl .byte) x.2.1 + (Ty.bulk (.sl .str) x.2.2.1 + (0 + 0))) ≤ 1048576 := s
  omega
set_option maxHeartbeats 4000000 in
theorem C_impl_VerifySignature (w : World) (v : Value) (l : List (Ty.D tKey)) (cs : List Value) (x : tData.D) (h1 : (Ty.sl tKey).rd w [v] l) (h : tData.rd w cs x) (s0 : Ty.bulk (.sl tKey) l ≤ 1048576) (s1 : Ty.bulk tData x ≤ 1048576) :
    Calls Tryz.prog 31 #[v, .agg cs.toArray] w (RetB w (f_VerifySignature l x)) := by
  have h' := h
  obtain ⟨A0, c0, A1, c1, A2, c2, rfl, g0, g1, g2, b3, b4⟩ := rd_Data h
  have hbd := secret_bd x.2.2.1 h1
  have hkb := keyName_bulk s1
  have kb0 : (w.alloc (.cells #[.slice A0 (List.length x.1) c0, .slice A1 (List.length x.2.1) c1, .slice A2 (List.length x.2.2.1) c2, .int .i64 x.2.2.2.1, .int .i64 x.2.2.2.2] 34)).cell? ⟨w.heap.size, 0, none⟩ = some (.slice A0 (List.length x.1) c0) := cell_new w _ _ 0 rfl
  have kb1 : (w.alloc (.cells #[.slice A0 (List.length x.1) c0, .slice A1 (List.length x.2.1) c1, .slice A2 (List.length x.2.2.1) c2, .int .i64 x.2.2.2.1, .int .i64 x.2.2.2.2] 34)).cell? ⟨w.heap.size, 1, none⟩ = some (.slice A1 (List.length x.2.1) c1) := cell_new w _ _ 1 rfl
  have kb2 : (w.alloc (.cells #[.slice A0 (List.length x.1) c0, .slice A1 (List.length x.2.1) c1, .slice A2 (List.length x.2.2.1) c2, .int .i64 x.2.2.2.1, .int .i64 x.2.2.2.2] 34)).cell? ⟨w.heap.size, 2, none⟩ = some (.slice A2 (List.length x.2.2.1) c2) := cell_new w _ _ 2 rfl
  have kb3 : (w.alloc (.cells #[.slice A0 (List.length x.1) c0, .slice A1 (List.length x.2.1) c1, .slice A2 (List.length x.2.2.1) c2, .int .i64 x.2.2.2.1, .int .i64 x.2.2.2.2] 34)).cell? ⟨w.heap.size, 3, none⟩ = some (.int .i64 x.2.2.2.1) := cell_new w _ _ 3 rfl
  have kb4 : (w.alloc (.cells #[.slice A0 (List.length x.1) c0, .slice A1 (List.length x.2.1) c1, .slice A2 (List.length x.2.2.1) c2, .int .i64 x.2.2.2.1, .int .i64 x.2.2.2.2] 34)).cell? ⟨w.heap.size, 4, none⟩ = some (.int .i64 x.2.2.2.2) := cell_new w _ _ 4 rfl
  have hvb : Below w.heap.size w (w.alloc (.cells #[.slice A0 (List.length x.1) c0, .slice A1 (List.length x.2.1) c1, .slice A2 (List.length x.2.2.1) c2, .int .i64 x.2.2.2.1, .int .i64 x.2.2.2.2] 34)) := (by repeat' (first | (with_reducible exact Below.refl _ _) | (with_reducible assumption) | (with_reducible refine bel_set ?_ (by (try dsimp only); omega) _) | (with_reducible refine bel_alloc ?_ _) | (with_reducible refine bel_drewN ?_ _) | (with_reducible refine bel_drew ?_)))
  have zb : w.heap.size < (w.alloc (.cells #[.slice A0 (List.length x.1) c0, .slice A1 (List.length x.2.1) c1, .slice A2 (List.length x.2.2.1) c2, .int .i64 x.2.2.2.1, .int .i64 x.2.2.2.2] 34)).heap.size := by rw [World.size_alloc]; omega
  have zb0 := Lib.hid (show (w.alloc (.cells #[.slice A0 (List.length x.1) c0, .slice A1 (List.length x.2.1) c1, .slice A2 (List.length x.2.2.1) c2, .int .i64 x.2.2.2.1, .int .i64 x.2.2.2.2] 34)).heap.size = w.heap.size + 1 from by rw [World.size_alloc])
  go_enter Tryz.func31, Tryz.ntmps31
  go_wp2_with fail
  generalize (w.alloc (.cells #[.slice A0 (List.length x.1) c0, .slice A1 (List.length x.2.1) c1, .slice A2 (List.length x.2.2.1) c2, .int .i64 x.2.2.2.1, .int .i64 x.2.2.2.2] 34)) = WX at kb0 kb1 kb2 kb3 kb4 hvb zb zb0 ⊢
  have HC : Hid (∀ W, Below WX.heap.size WX W → W.cell? ⟨w.heap.size, 0, none⟩ = some (.slice A0 (List.length x.1) c0) ∧ W.cell? ⟨w.heap.size, 1, none⟩ = some (.slice A1 (List.length x.2.1) c1) ∧ W.cell? ⟨w.heap.size, 2, none⟩ = some (.slice A2 (List.length x.2.2.1) c2) ∧ W.cell? ⟨w.heap.size, 3, none⟩ = some (.int .i64 x.2.2.2.1) ∧ W.cell? ⟨w.heap.size, 4, none⟩ = some (.int .i64 x.2.2.2.2)) := fun W hW => ⟨(hW.cell (p := ⟨w.heap.size, 0, none⟩) zb).trans kb0, (hW.cell (p := ⟨w.heap.size, 1, none⟩) zb).trans kb1, (hW.cell (p := ⟨w.heap.size, 2, none⟩) zb).trans kb2, (hW.cell (p := ⟨w.heap.size, 3, none⟩) zb).trans kb3, (hW.cell (p := ⟨w.heap.size, 4, none⟩) zb).trans kb4⟩
  clear kb0 kb1 kb2 kb3 kb4
  have HS : Hid (∀ W, Below WX.heap.size WX W → Below WX.heap.size WX W ∧ W.cell? ⟨w.heap.size, 0, none⟩ = some (.slice A0 (List.length x.1) c0) ∧ W.cell? ⟨w.heap.size, 1, none⟩ = some (.slice A1 (List.length x.2.1) c1) ∧ W.cell? ⟨w.heap.size, 2, none⟩ = some (.slice A2 (List.length x.2.2.1) c2) ∧ W.cell? ⟨w.heap.size, 3, none⟩ = some (.int .i64 x.2.2.2.1) ∧ W.cell? ⟨w.heap.size, 4, none⟩ = some (.int .i64 x.2.2.2.2)) := fun W hW => ⟨hW, HC.out W hW⟩
  set_option maxRecDepth 100000 in go_region_held3 (fun W => Below WX.heap.size WX W ∧ W.cell? ⟨w.heap.size, 0, none⟩ = some (.slice A0 (List.length x.1) c0) ∧ W.cell? ⟨w.heap.size, 1, none⟩ = some (.slice A1 (List.length x.2.1) c1) ∧ W.cell? ⟨w.heap.size, 2, none⟩ = some (.slice A2 (List.length x.2.2.1) c2) ∧ W.cell? ⟨w.heap.size, 3, none⟩ = some (.int .i64 x.2.2.2.1) ∧ W.cell? ⟨w.heap.size, 4, none⟩ = some (.int .i64 x.2.2.2.2)) (exact HS.out _ (by (repeat' (first | (with_reducible exact Below.refl _ _) | (with_reducible assumption) | (with_reducible refine bel_set ?_ (by (try dsimp only); omega) _) | (with_reducible refine bel_alloc ?_ _) | (with_reducible refine bel_drewN ?_ _) | (with_reducible refine bel_drew ?_) | (with_reducible refine bel_trans ?_ (by assumption)))); done))
    (first
      | (go_at_call 47; (with_reducible refine (C_impl_SecretOf _ _ l _ x.2.2.1 (Ty.rd_below (by (repeat' (first | (with_reducible exact Below.refl _ _) | (with_reducible assumption) | (with_reducible refine bel_set ?_ (by (try dsimp only); omega) _) | (with_reducible refine bel_alloc ?_ _) | (with_reducible refine bel_drewN ?_ _) | (with_reducible refine bel_drew ?_) | (with_reducible refine bel_trans ?_ (by assumption)))); done) (Ty.rd_below hvb h1)) (Ty.rd_below (by (repeat' (first | (with_reducible exact Below.refl _ _) | (with_reducible assumption) | (with_reducible refine bel_set ?_ (by (try dsimp only); omega) _) | (with_reducible refine bel_alloc ?_ _) | (with_reducible refine bel_drewN ?_ _) | (with_reducible refine bel_drew ?_) | (with_reducible refine bel_trans ?_ (by assumption)))); done) (Ty.rd_below hvb g2)) s0 hkb).mono ?_); rintro e w1 ⟨rfl, hb1⟩)
      | (go_at_call 89; (with_reducible refine (C_impl_VerifyData _ _ _ x (Ty.rd_below (by (repeat' (first | (with_reducible exact Below.refl _ _) | (with_reducible assumption) | (with_reducible refine bel_set ?_ (by (try dsimp only); omega) _) | (with_reducible refine bel_alloc ?_ _) | (with_reducible refine bel_drewN ?_ _) | (with_reducible refine bel_drew ?_) | (with_reducible refine bel_trans ?_ (by assumption)))); done) (Ty.rd_below hvb h')) hbd s1).mono ?_); rintro e w2 ⟨rfl, hb2⟩)
      | fail)
  all_goals
    go_wp2
    go_ret
    exact ⟨rfl, bel_trans hvb (by (repeat' (first | (with_reducible exact Below.refl _ _) | (with_reducible assumption) | (with_reducible refine bel_set ?_ (by (try dsimp only); omega) _) | (with_reducible refine bel_alloc ?_ _) | (with_reducible refine bel_drewN ?_ _) | (with_reducible refine bel_drew ?_) | (with_reducible refine bel_trans ?_ (by assumption)))); done)⟩
set_option maxHeartbeats 4000000 in
theorem C_spec_VerifySignature (w : World) (v : Value) (l : List (Ty.D tKey)) (cs : List Value) (x : tData.D) (h1 : (Ty.sl tKey).rd w [v] l) (h : tData.rd w cs x) (s0 : Ty.bulk (.sl tKey) l ≤ 1048576) (s1 : Ty.bulk tData x ≤ 1048576) :
    Calls Tryz.prog 42 #[v, .agg cs.toArray] w (RetB w (f_VerifySignature l x)) := by
  have h' := h
  obtain ⟨A0, c0, A1, c1, A2, c2, rfl, g0, g1, g2, b3, b4⟩ := rd_Data h
  have hbd := secret_bd x.2.2.1 h1
  have hkb := keyName_bulk s1
  have kb0 : (w.alloc (.cells #[.slice A0 (List.length x.1) c0, .slice A1 (List.length x.2.1) c1, .slice A2 (List.length x.2.2.1) c2, .int .i64 x.2.2.2.1, .int .i64 x.2.2.2.2] 34)).cell? ⟨w.heap.size, 0, none⟩ = some (.slice A0 (List.length x.1) c0) := cell_new w _ _ 0 rfl
  have kb1 : (w.alloc (.cells #[.slice A0 (List.length x.1) c0, .slice A1 (List.length x.2.1) c1, .slice A2 (List.length x.2.2.1) c2, .int .i64 x.2.2.2.1, .int .i64 x.2.2.2.2] 34)).cell? ⟨w.heap.size, 1, none⟩ = some (.slice A1 (List.length x.2.1) c1) := cell_new w _ _ 1 rfl
  have kb2 : (w.alloc (.cells #[.slice A0 (List.length x.1) c0, .slice A1 (List.length x.2.1) c1, .slice A2 (List.length x.2.2.1) c2, .int .i64 x.2.2.2.1, .int .i64 x.2.2.2.2] 34)).cell? ⟨w.heap.size, 2, none⟩ = some (.slice A2 (List.length x.2.2.1) c2) := cell_new w _ _ 2 rfl
  have kb3 : (w.alloc (.cells #[.slice A0 (List.length x.1) c0, .slice A1 (List.length x.2.1) c1, .slice A2 (List.length x.2.2.1) c2, .int .i64 x.2.2.2.1, .int .i64 x.2.2.2.2] 34)).cell? ⟨w.heap.size, 3, none⟩ = some (.int .i64 x.2.2.2.1) := cell_new w _ _ 3 rfl
  have kb4 : (w.alloc (.cells #[.slice A0 (List.length x.1) c0, .slice A1 (List.length x.2.1) c1, .slice A2 (List.length x.2.2.1) c2, .int .i64 x.2.2.2.1, .int .i64 x.2.2.2.2] 34)).cell? ⟨w.heap.size, 4, none⟩ = some (.int .i64 x.2.2.2.2) := cell_new w _ _ 4 rfl
  have hvb : Below w.heap.size w (w.alloc (.cells #[.slice A0 (List.length x.1) c0, .slice A1 (List.length x.2.1) c1, .slice A2 (List.length x.2.2.1) c2, .int .i64 x.2.2.2.1, .int .i64 x.2.2.2.2] 34)) := (by repeat' (first | (with_reducible exact Below.refl _ _) | (with_reducible assumption) | (with_reducible refine bel_set ?_ (by (try dsimp only); omega) _) | (with_reducible refine bel_alloc ?_ _) | (with_reducible refine bel_drewN ?_ _) | (with_reducible refine bel_drew ?_)))
  have zb : w.heap.size < (w.alloc (.cells #[.slice A0 (List.length x.1) c0, .slice A1 (List.length x.2.1) c1, .slice A2 (List.length x.2.2.1) c2, .int .i64 x.2.2.2.1, .int .i64 x.2.2.2.2] 34)).heap.size := by rw [World.size_alloc]; omega
  have zb0 := Lib.hid (show (w.alloc (.cells #[.slice A0 (List.length x.1) c0, .slice A1 (List.length x.2.1) c1, .slice A2 (List.length x.2.2.1) c2, .int .i64 x.2.2.2.1, .int .i64 x.2.2.2.2] 34)).heap.size = w.heap.size + 1 from by rw [World.size_alloc])
  go_enter Tryz.func42, Tryz.ntmps42
  go_wp2_with fail
  generalize (w.alloc (.cells #[.slice A0 (List.length x.1) c0, .slice A1 (List.length x.2.1) c1, .slice A2 (List.length x.2.2.1) c2, .int .i64 x.2.2.2.1, .int .i64 x.2.2.2.2] 34)) = WX at kb0 kb1 kb2 kb3 kb4 hvb zb zb0 ⊢
  have HC : Hid (∀ W, Below WX.heap.size WX W → W.cell? ⟨w.heap.size, 0, none⟩ = some (.slice A0 (List.length x.1) c0) ∧ W.cell? ⟨w.heap.size, 1, none⟩ = some (.slice A1 (List.length x.2.1) c1) ∧ W.cell? ⟨w.heap.size, 2, none⟩ = some (.slice A2 (List.length x.2.2.1) c2) ∧ W.cell? ⟨w.heap.size, 3, none⟩ = some (.int .i64 x.2.2.2.1) ∧ W.cell? ⟨w.heap.size, 4, none⟩ = some (.int .i64 x.2.2.2.2)) := fun W hW => ⟨(hW.cell (p := ⟨w.heap.size, 0, none⟩) zb).trans kb0, (hW.cell (p := ⟨w.heap.size, 1, none⟩) zb).trans kb1, (hW.cell (p := ⟨w.heap.size, 2, none⟩) zb).trans kb2, (hW.cell (p := ⟨w.heap.size, 3, none⟩) zb).trans kb3, (hW.cell (p := ⟨w.heap.size, 4, none⟩) zb).trans kb4⟩
  clear kb0 kb1 kb2 kb3 kb4
  have HS : Hid (∀ W, Below WX.heap.size WX W → Below WX.heap.size WX W ∧ W.cell? ⟨w.heap.size, 0, none⟩ = some (.slice A0 (List.length x.1) c0) ∧ W.cell? ⟨w.heap.size, 1, none⟩ = some (.slice A1 (List.length x.2.1) c1) ∧ W.cell? ⟨w.heap.size, 2, none⟩ = some (.slice A2 (List.length x.2.2.1) c2) ∧ W.cell? ⟨w.heap.size, 3, none⟩ = some (.int .i64 x.2.2.2.1) ∧ W.cell? ⟨w.heap.size, 4, none⟩ = some (.int .i64 x.2.2.2.2)) := fun W hW => ⟨hW, HC.out W hW⟩
  set_option maxRecDepth 100000 in go_region_held3 (fun W => Below WX.heap.size WX W ∧ W.cell? ⟨w.heap.size, 0, none⟩ = some (.slice A0 (List.length x.1) c0) ∧ W.cell? ⟨w.heap.size, 1, none⟩ = some (.slice A1 (List.length x.2.1) c1) ∧ W.cell? ⟨w.heap.size, 2, none⟩ = some (.slice A2 (List.length x.2.2.1) c2) ∧ W.cell? ⟨w.heap.size, 3, none⟩ = some (.int .i64 x.2.2.2.1) ∧ W.cell? ⟨w.heap.size, 4, none⟩ = some (.int .i64 x.2.2.2.2)) (exact HS.out _ (by (repeat' (first | (with_reducible exact Below.refl _ _) | (with_reducible assumption) | (with_reducible refine bel_set ?_ (by (try dsimp only); omega) _) | (with_reducible refine bel_alloc ?_ _) | (with_reducible refine bel_drewN ?_ _) | (with_reducible refine bel_drew ?_) | (with_reducible refine bel_trans ?_ (by assumption)))); done))
    (first
      | (go_at_call 48; (with_reducible refine (C_spec_SecretOf _ _ l _ x.2.2.1 (Ty.rd_below (by (repeat' (first | (with_reducible exact Below.refl _ _) | (with_reducible assumption) | (with_reducible refine bel_set ?_ (by (try dsimp only); omega) _) | (with_reducible refine bel_alloc ?_ _) | (with_reducible refine bel_drewN ?_ _) | (with_reducible refine bel_drew ?_) | (with_reducible refine bel_trans ?_ (by assumption)))); done) (Ty.rd_below hvb h1)) (Ty.rd_below (by (repeat' (first | (with_reducible exact Below.refl _ _) | (with_reducible assumption) | (with_reducible refine bel_set ?_ (by (try dsimp only); omega) _) | (with_reducible refine bel_alloc ?_ _) | (with_reducible refine bel_drewN ?_ _) | (with_reducible refine bel_drew ?_) | (with_reducible refine bel_trans ?_ (by assumption)))); done) (Ty.rd_below hvb g2)) s0 hkb).mono ?_); rintro e w1 ⟨rfl, hb1⟩)
      | (go_at_call 100; (with_reducible refine (C_spec_VerifyData _ _ _ x (Ty.rd_below (by (repeat' (first | (with_reducible exact Below.refl _ _) | (with_reducible assumption) | (with_reducible refine bel_set ?_ (by (try dsimp only); omega) _) | (with_reducible refine bel_alloc ?_ _) | (with_reducible refine bel_drewN ?_ _) | (with_reducible refine bel_drew ?_) | (with_reducible refine bel_trans ?_ (by assumption)))); done) (Ty.rd_below hvb h')) hbd s1).mono ?_); rintro e w2 ⟨rfl, hb2⟩)
      | fail)
  all_goals
    go_wp2
    go_ret
    exact ⟨rfl, bel_trans hvb (by (repeat' (first | (with_reducible exact Below.refl _ _) | (with_reducible assumption) | (with_reducible refine bel_set ?_ (by (try dsimp only); omega) _) | (with_reducible refine bel_alloc ?_ _) | (with_reducible refine bel_drewN ?_ _) | (with_reducible refine bel_drew ?_) | (with_reducible refine bel_trans ?_ (by assumption)))); done)⟩
end Go.Proofs.YtldgbnlcnlfmeaaGreat
