/- Pattern variables. -/
import Derived.Test.YtpjnidfdkggpfaaDoorVal
namespace Go.Proofs.YtpjnidfdkggpfaaDoor
open Go.RowKit
set_option linter.unusedVariables false
set_option linter.unusedSimpArgs false

theorem isVar_len {s : List UInt8} (h : ¬ s.length = 2) : isVar s = false := by
  match s, h with
  | [], _ => rfl
  | [a], _ => rfl
  | [a, b], h => simp at h
  | a :: b :: c :: l, _ => rfl
theorem isVar_iff (s : List UInt8) (h : s.length = 2) (c0 c1 : Int) (hc0 : c0 = (s[0].toNat : Int)) (hc1 : c1 = (s[1].toNat : Int)) : isVar s = true ↔ c0 = 63 ∧ 97 ≤ c1 ∧ c1 ≤ 122 := by
  match s, h with
  | [a, b], _ =>
    subst hc0; subst hc1
    show isVar [a, b] = true ↔ ((a.toNat : Nat) : Int) = 63 ∧ 97 ≤ ((b.toNat : Nat) : Int) ∧ ((b.toNat : Nat) : Int) ≤ 122
    have e : a = 63 ↔ a.toNat = 63 := ⟨fun h => by rw [h]; rfl, fun h => UInt8.toNat_inj.1 (by rw [h]; rfl)⟩
    simp only [isVar, Bool.and_eq_true, decide_eq_true_eq]
    try rw [e]
    omega
set_option maxHeartbeats 1000000 in
theorem C_impl_isVariable (w : World) (s : List UInt8) (hs : s.length ≤ 9223372036854775807) : Calls Tryd.prog 44 #[vS s] w (RetBP w (isVar s)) := by
  by_cases h2 : s.length = 2
  · have h0 : 0 < s.length := by omega
    have h1 : 1 < s.length := by omega
    go_enter Tryd.func44, Tryd.ntmps44
    go_wp2
    all_goals go_ret
    all_goals exact ⟨ret_bool (by rw [Bool.eq_iff_iff, isVar_iff s h2 _ _ (bytes_at s 0 h0 h0) (bytes_at s 1 h1 h1)]; simp; try omega), rfl⟩
  · have HF := Lib.hid (isVar_len h2)
    go_enter Tryd.func44, Tryd.ntmps44
    go_wp2
    go_ret
    exact ⟨ret_bool HF.out.symm, rfl⟩
set_option maxHeartbeats 1000000 in
theorem C_spec_l5Letter (w : World) (s : List UInt8) (hs : s.length ≤ 9223372036854775807) : Calls Tryd.prog 38 #[vS s] w (RetBP w (isVar s)) := by
  by_cases h2 : s.length = 2
  · have h0 : 0 < s.length := by omega
    have h1 : 1 < s.length := by omega
    have hb1 := bytes_at s 1 h1 h1
    have hlt := s[1].toNat_lt
    go_enter Tryd.func38, Tryd.ntmps38
    go_wp2_with fail
    all_goals first
      | (refine (C_spec_l1In _ _ _ _).mono ?_
         rintro e w1 ⟨rfl, rfl⟩
         go_wp2
         all_goals go_ret
         all_goals exact ⟨ret_bool (by rw [Bool.eq_iff_iff, isVar_iff s h2 _ _ (bytes_at s 0 h0 h0) (bytes_at s 1 h1 h1)]; unfold inR; rw [wrap64_in _ (by omega)]; simp; try omega), rfl⟩)
      | (go_wp2
         all_goals go_ret
         all_goals exact ⟨ret_bool (by rw [Bool.eq_iff_iff, isVar_iff s h2 _ _ (bytes_at s 0 h0 h0) (bytes_at s 1 h1 h1)]; simp; try omega), rfl⟩)
  · have HF := Lib.hid (isVar_len h2)
    go_enter Tryd.func38, Tryd.ntmps38
    go_wp2
    go_ret
    exact ⟨ret_bool HF.out.symm, rfl⟩
end Go.Proofs.YtpjnidfdkggpfaaDoor
