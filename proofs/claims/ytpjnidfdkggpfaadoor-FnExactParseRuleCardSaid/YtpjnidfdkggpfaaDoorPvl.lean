/- Patterns are right. Printed by gen12.py. -/
import Derived.Test.YtpjnidfdkggpfaaDoorPat
namespace Go.Proofs.YtpjnidfdkggpfaaDoor
open Go.RowKit
set_option linter.unusedVariables false
set_option linter.unusedSimpArgs false

def patUpto (p : List (List UInt8)) (k : Nat) : Bool := (List.range k).all (fun i => patPart p.length i (p.getD i []))
theorem patUpto_succ (p : List (List UInt8)) {k : Nat} (h : k < p.length) : patUpto p (k + 1) = (patUpto p k && patPart p.length k p[k]) := by
  unfold patUpto; rw [List.range_succ, List.all_append]; simp [List.getD, h]
theorem part_42 : validPart [42, 42] = false := by decide
theorem var_42 : isVar [42, 42] = false := by decide
theorem validPat_no (p : List (List UInt8)) {k : Nat} (h : k < p.length) (hq : patPart p.length k p[k] = false) : validPat p = false := by
  have : (List.range p.length).all (fun i => patPart p.length i (p.getD i [])) = false := by
    rw [List.all_eq_false]; exact ⟨k, by simpa using h, by simp [List.getD, h, hq]⟩
  unfold validPat; rw [this]; rfl
set_option maxHeartbeats 2000000 in
theorem C_spec_ValidPattern (w : World) (cs : List Value) (p : List (List UInt8)) (h : (Ty.sl .str).rd w cs p) :
    Calls Tryd.prog 37 #[.agg cs.toArray] w (RetB w (validPat p)) := by
  obtain ⟨A, c, rfl⟩ := Ty.rd_slv h
  obtain ⟨_, _, _, _, _, n0⟩ := Ty.rd_sl h
  go_enter Tryd.func37, Tryd.ntmps37
  go_wp2
  go_loopw [3] (fun i wr => ∃ k : Nat, k ≤ p.length ∧ i = .int .i64 k ∧ patUpto p k = true ∧ Below (w.alloc (.cells #[.slice A p.length c] 35)).heap.size (w.alloc (.cells #[.slice A p.length c] 35)) wr) (fun i _ => p.length - (intOf i).toNat)
  case atStart => exact ⟨0, by omega, rfl, by rfl, Below.refl _ _⟩
  case round =>
    obtain ⟨k, hk, rfl, ht, hb⟩ := hrel
    have hw : Below w.heap.size w wr := bel_trans (by repeat' (first | (with_reducible exact Below.refl _ _) | (with_reducible assumption) | (with_reducible refine bel_set ?_ (by (try dsimp only); omega) _) | (with_reducible refine bel_alloc ?_ _) | (with_reducible refine bel_drewN ?_ _) | (with_reducible refine bel_drew ?_))) hb
    obtain ⟨hc, hf⟩ := bcell hb
    have HT := Lib.hid ht
    clear ht
    by_cases hlt : k < p.length
    · have HS := Lib.hid (patUpto_succ p hlt)
      have HN := Lib.hid (fun q => validPat_no p hlt q)
      obtain ⟨b, o, ds, rfl, hl, hcell, hrd⟩ := Ty.rd_at (Ty.rd_below hw h) hlt
      obtain ⟨rfl, hsl⟩ := hrd
      have e0 : wr.cell? ⟨b, o + k, none⟩ = some (vS p[k]) := by simpa [Ty.sz] using hcell 0 (by decide)
      clear hcell hl
      have HP := Lib.hid (show patPart p.length k p[k] = (validPart p[k] || decide (p[k] = [42]) || isVar p[k] || (decide (p[k] = [42, 42]) && decide (k + 1 = p.length))) from rfl)
      go_wp2_with fail
      refine (C_spec_ValidPart _ _ hsl).mono ?_
      rintro e w1 ⟨rfl, rfl⟩
      go_wp2_with fail
      all_goals first
        | exact ⟨⟨k + 1, by omega, by go_num, by rw [HS.out, HT.out, HP.out]; simp [*, part_42, var_42]; try omega, hb⟩, by simp [intOf]; omega⟩
        | (refine (C_spec_l5Letter _ _ hsl).mono ?_
           rintro e w2 ⟨rfl, rfl⟩
           go_wp2
           all_goals (try simp only [Bool.not_eq_false', beq_iff_eq, Bool.not_eq_true', beq_eq_false_iff_ne, bne_iff_ne, bne_eq_false_iff_eq, ne_eq] at *)
           all_goals (try contradiction)
           all_goals first
             | exact ⟨⟨k + 1, by omega, by go_num, by rw [HS.out, HT.out, HP.out]; simp [*, part_42, var_42]; try omega, hb⟩, by simp [intOf]; omega⟩
             | exact ⟨⟨k + 1, by omega, by go_num, by rw [HS.out, HT.out, HP.out]; simp [*, part_42, var_42]; try omega, hb⟩, by simp [intOf]; omega⟩
             | (go_ret
                exact ⟨ret_bool (HN.out (by rw [HP.out]; simp [*, part_42, var_42]; try omega)).symm, hw⟩)
             | (go_ret
                exact ⟨ret_bool (HN.out (by rw [HP.out]; simp [*, part_42, var_42]; try omega)).symm, hw⟩))
    · have HE : Hid (validPat p = decide (p.length ≤ 6)) := by
        have e : k = p.length := by omega
        have := HT.out; rw [e] at this
        unfold patUpto at this; unfold Hid validPat; rw [this]; rfl
      go_wp2
      go_ret
      exact ⟨ret_bool (by rw [HE.out]; (rw [Bool.eq_iff_iff]; simp; try omega)), hw⟩
set_option maxHeartbeats 2000000 in
theorem C_impl_ValidPattern (w : World) (cs : List Value) (p : List (List UInt8)) (h : (Ty.sl .str).rd w cs p) :
    Calls Tryd.prog 42 #[.agg cs.toArray] w (RetB w (validPat p)) := by
  obtain ⟨A, c, rfl⟩ := Ty.rd_slv h
  obtain ⟨_, _, _, _, _, n0⟩ := Ty.rd_sl h
  go_enter Tryd.func42, Tryd.ntmps42
  go_wp2
  go_loopw [8] (fun i wr => ∃ k : Nat, k ≤ p.length ∧ i = .int .i64 k ∧ patUpto p k = true ∧ Below (w.alloc (.cells #[.slice A p.length c] 35)).heap.size (w.alloc (.cells #[.slice A p.length c] 35)) wr) (fun i _ => p.length - (intOf i).toNat)
  case atStart => exact ⟨0, by omega, rfl, by rfl, Below.refl _ _⟩
  case round =>
    obtain ⟨k, hk, rfl, ht, hb⟩ := hrel
    have hw : Below w.heap.size w wr := bel_trans (by repeat' (first | (with_reducible exact Below.refl _ _) | (with_reducible assumption) | (with_reducible refine bel_set ?_ (by (try dsimp only); omega) _) | (with_reducible refine bel_alloc ?_ _) | (with_reducible refine bel_drewN ?_ _) | (with_reducible refine bel_drew ?_))) hb
    obtain ⟨hc, hf⟩ := bcell hb
    have HT := Lib.hid ht
    clear ht
    by_cases hlt : k < p.length
    · have HS := Lib.hid (patUpto_succ p hlt)
      have HN := Lib.hid (fun q => validPat_no p hlt q)
      obtain ⟨b, o, ds, rfl, hl, hcell, hrd⟩ := Ty.rd_at (Ty.rd_below hw h) hlt
      obtain ⟨rfl, hsl⟩ := hrd
      have e0 : wr.cell? ⟨b, o + k, none⟩ = some (vS p[k]) := by simpa [Ty.sz] using hcell 0 (by decide)
      clear hcell hl
      have HP := Lib.hid (show patPart p.length k p[k] = (validPart p[k] || decide (p[k] = [42]) || isVar p[k] || (decide (p[k] = [42, 42]) && decide (k + 1 = p.length))) from rfl)
      go_wp2_with fail
      refine (C_impl_ValidPart _ _ hsl).mono ?_
      rintro e w1 ⟨rfl, rfl⟩
      go_wp2_with fail
      all_goals first
        | exact ⟨⟨k + 1, by omega, by go_num, by rw [HS.out, HT.out, HP.out]; simp [*, part_42, var_42]; try omega, hb⟩, by simp [intOf]; omega⟩
        | (refine (C_impl_isVariable _ _ hsl).mono ?_
           rintro e w2 ⟨rfl, rfl⟩
           go_wp2
           all_goals (try simp only [Bool.not_eq_false', beq_iff_eq, Bool.not_eq_true', beq_eq_false_iff_ne, bne_iff_ne, bne_eq_false_iff_eq, ne_eq] at *)
           all_goals (try contradiction)
           all_goals first
             | exact ⟨⟨k + 1, by omega, by go_num, by rw [HS.out, HT.out, HP.out]; simp [*, part_42, var_42]; try omega, hb⟩, by simp [intOf]; omega⟩
             | exact ⟨⟨k + 1, by omega, by go_num, by rw [HS.out, HT.out, HP.out]; simp [*, part_42, var_42]; try omega, hb⟩, by simp [intOf]; omega⟩
             | (go_ret
                exact ⟨ret_bool (HN.out (by rw [HP.out]; simp [*, part_42, var_42]; try omega)).symm, hw⟩)
             | (go_ret
                exact ⟨ret_bool (HN.out (by rw [HP.out]; simp [*, part_42, var_42]; try omega)).symm, hw⟩))
    · have HE : Hid (validPat p = decide (p.length ≤ 6)) := by
        have e : k = p.length := by omega
        have := HT.out; rw [e] at this
        unfold patUpto at this; unfold Hid validPat; rw [this]; rfl
      go_wp2
      go_ret
      exact ⟨ret_bool (by rw [HE.out]; (rw [Bool.eq_iff_iff]; simp; try omega)), hw⟩
end Go.Proofs.YtpjnidfdkggpfaaDoor
