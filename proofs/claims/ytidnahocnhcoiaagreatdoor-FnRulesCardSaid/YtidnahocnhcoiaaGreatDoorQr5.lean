/- Texts of this claim, merged by a program: Pat Pvl Key Has Vru Ixf Vrs Pss. -/
import Derived.Test.YtidnahocnhcoiaaGreatDoorQrP
import Derived.Test.YtidnahocnhcoiaaGreatDoorQr2
import Derived.Test.YtidnahocnhcoiaaGreatDoorQr0
import Derived.Test.YtidnahocnhcoiaaGreatDoorQr1
namespace Go.Proofs.YtidnahocnhcoiaaGreatDoor
open Go.RowKit
set_option linter.unusedVariables false
set_option linter.unusedSimpArgs false
theorem isVar_len {s : List UInt8} (h : ¬ s.length = 2) : isVar s = false := by
 match s, h with
 | [], _ => rfl
 | [a], _ => rfl
 | [a, b], h => simp at h
 | a :: b :: c :: l, _ => rfl
theorem isVar_iff (s : List UInt8) (h : s.length = 2) (c0 c1 : Int) (hc0 : c0 = (s[0].toNat : Int)) (hc1 : c1 = (s[1].toNat : Int)) : isVar s = true ↔ c0 = 63 ∧ 97 ≤ c1 ∧ c1 ≤ 122 := by
 match s, h with
 | [a, b], _ =>
  subst hc0; subst hc1
  show isVar [a, b] = true ↔ ((a.toNat : Nat) : Int) = 63 ∧ 97 ≤ ((b.toNat : Nat) : Int) ∧ ((b.toNat : Nat) : Int) ≤ 122
  have e : a = 63 ↔ a.toNat = 63 := ⟨fun h => by rw [h]; rfl, fun h => UInt8.toNat_inj.1 (by rw [h]; rfl)⟩
  simp only [isVar, Bool.and_eq_true, decide_eq_true_eq]
  try rw [e]
  omega
set_option maxHeartbeats 1000000 in
theorem C_impl_isVariable (w : World) (s : List UInt8) (hs : s.length ≤ 9223372036854775807) : Calls Tryz.prog 48 #[vS s] w (RetBP w (isVar s)) := by
 by_cases h2 : s.length = 2
 ·have h0 : 0 < s.length := by omega
  have h1 : 1 < s.length := by omega
  go_enter Tryz.func48, Tryz.ntmps48
  go_wp2
  all_goals go_ret
  all_goals exact ⟨ret_bool (by rw [Bool.eq_iff_iff, isVar_iff s h2 _ _ (bytes_at s 0 h0 h0) (bytes_at s 1 h1 h1)]; simp; try omega), rfl⟩
 ·have HF := Lib.hid (isVar_len h2)
  go_enter Tryz.func48, Tryz.ntmps48
  go_wp2
  go_ret
  exact ⟨ret_bool HF.out.symm, rfl⟩
set_option maxHeartbeats 1000000 in
theorem C_spec_l5Letter (w : World) (s : List UInt8) (hs : s.length ≤ 9223372036854775807) : Calls Tryz.prog 51 #[vS s] w (RetBP w (isVar s)) := by
  by_cases h2 : s.length = 2
  · have h0 : 0 < s.length := by omega
    have h1 : 1 < s.length := by omega
    have hb1 := bytes_at s 1 h1 h1
    have hlt := s[1].toNat_lt
    go_enter Tryz.func51, Tryz.ntmps51
    go_wp2_with fail
    all_goals first
      | (refine (C_spec_l1In _ _ _ _).mono ?_
         rintro e w1 ⟨rfl, rfl⟩
         go_wp2
         all_goals go_ret
         all_goals exact ⟨ret_bool (by rw [Bool.eq_iff_iff, isVar_iff s h2 _ _ (bytes_at s 0 h0 h0) (bytes_at s 1 h1 h1)]; unfold inR; rw [wrap64_in _ b_22]; simp; try omega), rfl⟩)
      | (go_wp2
         all_goals go_ret
         all_goals exact ⟨ret_bool (by rw [Bool.eq_iff_iff, isVar_iff s h2 _ _ (bytes_at s 0 h0 h0) (bytes_at s 1 h1 h1)]; simp; try omega), rfl⟩)
  · have HF := Lib.hid (isVar_len h2)
    go_enter Tryz.func51, Tryz.ntmps51
    go_wp2
    go_ret
    exact ⟨ret_bool HF.out.symm, rfl⟩
def patUpto (p : List (List UInt8)) (k : Nat) : Bool := (List.range k).all (fun i => patPart p.length i (p.getD i []))
theorem patUpto_succ (p : List (List UInt8)) {k : Nat} (h : k < p.length) : patUpto p (k + 1) = (patUpto p k && patPart p.length k p[k]) := by
 unfold patUpto; rw [List.range_succ, List.all_append]; simp [List.getD, h]
theorem part_42 : validPart [42, 42] = false := by decide
theorem var_42 : isVar [42, 42] = false := by decide
theorem validPat_no (p : List (List UInt8)) {k : Nat} (h : k < p.length) (hq : patPart p.length k p[k] = false) : validPat p = false := by
 have : (List.range p.length).all (fun i => patPart p.length i (p.getD i [])) = false := by
  rw [List.all_eq_false]; exact ⟨k, by simpa using h, by simp [List.getD, h, hq]⟩
 unfold validPat; rw [this]; rfl
set_option maxHeartbeats 2000000 in
theorem C_spec_ValidPattern (w : World) (cs : List Value) (p : List (List UInt8)) (h : (Ty.sl .str).rd w cs p) :
    Calls Tryz.prog 50 #[.agg cs.toArray] w (RetB w (validPat p)) := by
  obtain ⟨A, c, rfl⟩ := Ty.rd_slv h
  obtain ⟨_, _, _, _, _, n0⟩ := Ty.rd_sl h
  go_enter Tryz.func50, Tryz.ntmps50
  go_wp2
  go_loopw [3] (fun i wr => ∃ k : Nat, k ≤ p.length ∧ i = .int .i64 k ∧ patUpto p k = true ∧ Below (w.alloc (.cells #[.slice A p.length c] 26)).heap.size (w.alloc (.cells #[.slice A p.length c] 26)) wr) (fun i _ => p.length - (intOf i).toNat)
  case atStart => exact ⟨0, by omega, rfl, by rfl, Below.refl _ _⟩
  case round =>
    obtain ⟨k, hk, rfl, ht, hb⟩ := hrel
    have hw : Below w.heap.size w wr := bel_trans b_2 hb
    obtain ⟨hc, hf⟩ := bcell hb
    have HT := Lib.hid ht
    clear ht
    by_cases hlt : k < p.length
    · have HS := Lib.hid (patUpto_succ p hlt)
      have HN := Lib.hid (fun q => validPat_no p hlt q)
      obtain ⟨b, o, ds, rfl, hl, hcell, hrd⟩ := Ty.rd_at (Ty.rd_below hw h) hlt
      obtain ⟨rfl, hsl⟩ := hrd
      have e0 : wr.cell? ⟨b, o + k, none⟩ = some (vS p[k]) := by simpa [Ty.sz] using hcell 0 b_21
      clear hcell hl
      have HP := Lib.hid (show patPart p.length k p[k] = (validPart p[k] || decide (p[k] = [42]) || isVar p[k] || (decide (p[k] = [42, 42]) && decide (k + 1 = p.length))) from rfl)
      go_wp2_with fail
      refine (C_spec_ValidPart _ _ hsl).mono ?_
      rintro e w1 ⟨rfl, rfl⟩
      go_wp2_with fail
      all_goals first
        | exact ⟨⟨k + 1, by omega, by go_num, by rw [HS.out, HT.out, HP.out]; simp [*, part_42, var_42]; try omega, hb⟩, by simp [intOf]; omega⟩
        | (refine (C_spec_l5Letter _ _ hsl).mono ?_
           rintro e w2 ⟨rfl, rfl⟩
           go_wp2
           all_goals (try simp only [Bool.not_eq_false', beq_iff_eq, Bool.not_eq_true', beq_eq_false_iff_ne, bne_iff_ne, bne_eq_false_iff_eq, ne_eq] at *)
           all_goals (try contradiction)
           all_goals first
             | exact ⟨⟨k + 1, by omega, by go_num, by rw [HS.out, HT.out, HP.out]; simp [*, part_42, var_42]; try omega, hb⟩, by simp [intOf]; omega⟩
             | exact ⟨⟨k + 1, by omega, by go_num, by rw [HS.out, HT.out, HP.out]; simp [*, part_42, var_42]; try omega, hb⟩, by simp [intOf]; omega⟩
             | (go_ret
                exact ⟨ret_bool (HN.out (by rw [HP.out]; simp [*, part_42, var_42]; try omega)).symm, hw⟩)
             | (go_ret
                exact ⟨ret_bool (HN.out (by rw [HP.out]; simp [*, part_42, var_42]; try omega)).symm, hw⟩))
    · have HE : Hid (validPat p = decide (p.length ≤ 6)) := by
        have e : k = p.length := by omega
        have := HT.out; rw [e] at this
        unfold patUpto at this; unfold Hid validPat; rw [this]; rfl
      go_wp2
      go_ret
      exact ⟨ret_bool (by rw [HE.out]; (rw [Bool.eq_iff_iff]; simp; try omega)), hw⟩
set_option maxHeartbeats 2000000 in
theorem C_impl_ValidPattern (w : World) (cs : List Value) (p : List (List UInt8)) (h : (Ty.sl .str).rd w cs p) :
    Calls Tryz.prog 47 #[.agg cs.toArray] w (RetB w (validPat p)) := by
  obtain ⟨A, c, rfl⟩ := Ty.rd_slv h
  obtain ⟨_, _, _, _, _, n0⟩ := Ty.rd_sl h
  go_enter Tryz.func47, Tryz.ntmps47
  go_wp2
  go_loopw [8] (fun i wr => ∃ k : Nat, k ≤ p.length ∧ i = .int .i64 k ∧ patUpto p k = true ∧ Below (w.alloc (.cells #[.slice A p.length c] 26)).heap.size (w.alloc (.cells #[.slice A p.length c] 26)) wr) (fun i _ => p.length - (intOf i).toNat)
  case atStart => exact ⟨0, by omega, rfl, by rfl, Below.refl _ _⟩
  case round =>
    obtain ⟨k, hk, rfl, ht, hb⟩ := hrel
    have hw : Below w.heap.size w wr := bel_trans b_2 hb
    obtain ⟨hc, hf⟩ := bcell hb
    have HT := Lib.hid ht
    clear ht
    by_cases hlt : k < p.length
    · have HS := Lib.hid (patUpto_succ p hlt)
      have HN := Lib.hid (fun q => validPat_no p hlt q)
      obtain ⟨b, o, ds, rfl, hl, hcell, hrd⟩ := Ty.rd_at (Ty.rd_below hw h) hlt
      obtain ⟨rfl, hsl⟩ := hrd
      have e0 : wr.cell? ⟨b, o + k, none⟩ = some (vS p[k]) := by simpa [Ty.sz] using hcell 0 b_21
      clear hcell hl
      have HP := Lib.hid (show patPart p.length k p[k] = (validPart p[k] || decide (p[k] = [42]) || isVar p[k] || (decide (p[k] = [42, 42]) && decide (k + 1 = p.length))) from rfl)
      go_wp2_with fail
      refine (C_impl_ValidPart _ _ hsl).mono ?_
      rintro e w1 ⟨rfl, rfl⟩
      go_wp2_with fail
      all_goals first
        | exact ⟨⟨k + 1, by omega, by go_num, by rw [HS.out, HT.out, HP.out]; simp [*, part_42, var_42]; try omega, hb⟩, by simp [intOf]; omega⟩
        | (refine (C_impl_isVariable _ _ hsl).mono ?_
           rintro e w2 ⟨rfl, rfl⟩
           go_wp2
           all_goals (try simp only [Bool.not_eq_false', beq_iff_eq, Bool.not_eq_true', beq_eq_false_iff_ne, bne_iff_ne, bne_eq_false_iff_eq, ne_eq] at *)
           all_goals (try contradiction)
           all_goals first
             | exact ⟨⟨k + 1, by omega, by go_num, by rw [HS.out, HT.out, HP.out]; simp [*, part_42, var_42]; try omega, hb⟩, by simp [intOf]; omega⟩
             | exact ⟨⟨k + 1, by omega, by go_num, by rw [HS.out, HT.out, HP.out]; simp [*, part_42, var_42]; try omega, hb⟩, by simp [intOf]; omega⟩
             | (go_ret
                exact ⟨ret_bool (HN.out (by rw [HP.out]; simp [*, part_42, var_42]; try omega)).symm, hw⟩)
             | (go_ret
                exact ⟨ret_bool (HN.out (by rw [HP.out]; simp [*, part_42, var_42]; try omega)).symm, hw⟩))
    · have HE : Hid (validPat p = decide (p.length ≤ 6)) := by
        have e : k = p.length := by omega
        have := HT.out; rw [e] at this
        unfold patUpto at this; unfold Hid validPat; rw [this]; rfl
      go_wp2
      go_ret
      exact ⟨ret_bool (by rw [HE.out]; (rw [Bool.eq_iff_iff]; simp; try omega)), hw⟩
theorem find_ixf {α : Type} (p : α → Bool) (x : List α) : (ixf p x = -1 ∧ x.find? p = none) ∨ ∃ (k : Nat) (h : k < x.length), ixf p x = k ∧ x.find? p = some x[k] := by
 unfold ixf
 cases hq : x.findIdx? p with
 | none => left; exact ⟨rfl, by rw [List.findIdx?_eq_none_iff] at hq; rw [List.find?_eq_none]; simpa using hq⟩
 | some k =>
  right
  rw [List.findIdx?_eq_some_iff_getElem] at hq
  obtain ⟨h, hp, hj⟩ := hq
  exact ⟨k, h, rfl, by rw [List.find?_eq_some_iff_getElem]; exact ⟨hp, k, h, rfl, fun j hj' => by simpa using hj j hj'⟩⟩
def eqs (s q : List UInt8) : Bool := decide (q = s)
theorem contains_any (p : List (List UInt8)) (s : List UInt8) : p.contains s = p.any (eqs s) := by
 rw [Bool.eq_iff_iff, List.contains_iff_mem, List.any_eq_true]
 exact ⟨fun h => ⟨s, h, by simp [eqs]⟩, fun ⟨q, h, e⟩ => by simp [eqs] at e; exact e ▸ h⟩
theorem any_hit (f : List UInt8 → Bool) (p : List (List UInt8)) {k : Nat} (h : k < p.length) (hq : f p[k] = true) : p.any f = true :=
 List.any_eq_true.2 ⟨_, List.getElem_mem h, hq⟩
set_option maxHeartbeats 1000000 in
theorem C_spec_l10Has (w : World) (cs : List Value) (p : List (List UInt8)) (s : List UInt8) (h : (Ty.sl .str).rd w cs p) (hs : s.length ≤ 9223372036854775807) :
  Calls Tryz.prog 52 #[.agg cs.toArray, vS s] w (RetB w (p.any (eqs s))) := by
 obtain ⟨A, c, rfl⟩ := Ty.rd_slv h
 obtain ⟨_, _, _, _, _, n0⟩ := Ty.rd_sl h
 go_enter Tryz.func52, Tryz.ntmps52
 go_wp2
 go_loopw [5] (fun i wr => ∃ k : Nat, k ≤ p.length ∧ i = .int .i64 k ∧ (p.take k).any (eqs s) = false ∧ Below (w.alloc (.cells #[.slice A p.length c] 26)).heap.size (w.alloc (.cells #[.slice A p.length c] 26)) wr) (fun i _ => p.length - (intOf i).toNat)
 case atStart => exact ⟨0, by omega, rfl, by first | rfl | simp, Below.refl _ _⟩
 case round =>
  obtain ⟨k, hk, rfl, ht, hb⟩ := hrel
  have hw : Below w.heap.size w wr := bel_trans b_2 hb
  obtain ⟨hc, hf⟩ := bcell hb
  have HT := Lib.hid ht
  clear ht
  by_cases hlt : k < p.length
  ·have HS := Lib.hid (any_take_succ (eqs s) p hlt)
   obtain ⟨b, o, ds, rfl, hl, hcell, hrd⟩ := Ty.rd_at (Ty.rd_below hw h) hlt
   obtain ⟨rfl, hsl⟩ := hrd
   have e0 : wr.cell? ⟨b, o + k, none⟩ = some (vS p[k]) := by simpa [Ty.sz] using hcell 0 b_21
   clear hcell hl
   by_cases hq : p[k] = s
   ·have HQ := Lib.hid (any_hit (eqs s) p hlt (by simp [eqs, hq]))
    have hq2 : (p[k] == s) = true := by simp [hq]
    go_wp2
    go_ret
    exact ⟨ret_bool HQ.out.symm, hw⟩
   ·have HQ : Hid (eqs s p[k] = false) := by show _ = _; simp [eqs, hq]
    have hq2 : (p[k] == s) = false := by simp [hq]
    go_wp2
    exact ⟨⟨k + 1, by omega, by go_num, by rw [HS.out, HT.out, HQ.out]; rfl, hb⟩, by simp [intOf]; omega⟩
  ·have HE : Hid (p.any (eqs s) = false) := by have := HT.out; rwa [List.take_of_length_le b_22] at this
   go_wp2
   go_ret
   exact ⟨ret_bool HE.out.symm, hw⟩
set_option maxHeartbeats 1000000 in
theorem C_Index_str (w : World) (v : Value) (p : List (List UInt8)) (s : List UInt8) (h : (Ty.sl .str).rd w [v] p) (hs : s.length ≤ 9223372036854775807) :
  Calls Tryz.prog 71 #[v, vS s] w (RetIP w (ixf (eqs s) p)) := by
 obtain ⟨A, c, rfl, _, _, n0⟩ := Ty.rd_sl h
 go_enter Tryz.func71, Tryz.ntmps71
 go_wp2
 go_loopw [8] (fun i wr => ∃ k : Nat, k ≤ p.length ∧ i = .int .i64 k ∧ (p.take k).any (eqs s) = false ∧ wr = w) (fun i _ => p.length - (intOf i).toNat)
 case atStart => exact ⟨0, by omega, rfl, by first | rfl | simp, rfl⟩
 case round =>
  obtain ⟨k, hk, rfl, ht, rfl⟩ := hrel
  have HT := Lib.hid ht
  clear ht
  by_cases hlt : k < p.length
  ·have HS := Lib.hid (any_take_succ (eqs s) p hlt)
   obtain ⟨b, o, ds, rfl, hl, hcell, hrd⟩ := Ty.rd_at h hlt
   obtain ⟨rfl, hsl⟩ := hrd
   have e0 := hcell 0 b_21
   simp [Ty.sz] at e0
   clear hcell hl
   by_cases hq : p[k] = s
   ·have HQ := Lib.hid (ixf_hit (eqs s) p hlt HT.out (by simp [eqs, hq]))
    have hq2 : (s == p[k]) = true := by simp [hq]
    go_wp2
    go_ret
    exact ⟨ret_int HQ.out.symm, rfl⟩
   ·have HQ : Hid (eqs s p[k] = false) := by show _ = _; simp [eqs, hq]
    have hq2 : (s == p[k]) = false := by simp [Ne.symm hq]
    go_wp2
    exact ⟨⟨k + 1, by omega, by go_num, by rw [HS.out, HT.out, HQ.out]; rfl, by first | rfl | trivial⟩, by simp [intOf]; omega⟩
  ·have HE : Hid (p.any (eqs s) = false) := by have := HT.out; rwa [List.take_of_length_le b_22] at this
   go_wp2
   go_ret
   exact ⟨ret_int (ixf_miss (eqs s) p HE.out).symm, rfl⟩
theorem ixf_sign (f : List UInt8 → Bool) (p : List (List UInt8)) : decide (0 ≤ ixf f p) = p.any f := by
 rcases find_ixf f p with ⟨hi, hf⟩ | ⟨k, hk, hi, hf⟩
 ·rw [hi]
  cases h : p.any f
  ·rfl
  ·obtain ⟨q, hq, he⟩ := List.any_eq_true.1 h
   exact absurd he (by have := List.find?_eq_none.1 hf q hq; simpa using this)
 ·rw [hi]
  have h1 := List.find?_some hf
  rw [List.any_eq_true.2 ⟨_, List.mem_of_find?_eq_some hf, h1⟩]
  simp
set_option maxHeartbeats 1000000 in
theorem C_Contains_str (w : World) (v : Value) (p : List (List UInt8)) (s : List UInt8) (h : (Ty.sl .str).rd w [v] p) (hs : s.length ≤ 9223372036854775807) :
  Calls Tryz.prog 49 #[v, vS s] w (RetBP w (p.any (eqs s))) := by
 have HI := Lib.hid (ixf_sign (eqs s) p)
 go_enter Tryz.func49, Tryz.ntmps49
 go_wp2_with fail
 refine (C_Index_str _ _ p s h hs).mono ?_
 rintro e w1 ⟨rfl, rfl⟩
 go_wp2
 go_ret
 exact ⟨ret_bool HI.out, rfl⟩
def vrP (a : List (List UInt8)) (s : List UInt8) : Bool := !isVar s || a.any (eqs s)
theorem validRule_eq (x : tRule.D) : validRule x = (validPat x.1 && validPat x.2 && List.all x.2 (vrP x.1)) := by
 unfold validRule
 congr 2
 funext s; unfold vrP; rw [contains_any]
set_option maxHeartbeats 2000000 in
theorem C_impl_ValidRule (w : World) (cs : List Value) (x : tRule.D) (h : tRule.rd w cs x) (s0 : Ty.bulk tRule x ≤ 1048576) :
  Calls Tryz.prog 24 #[.agg cs.toArray] w (RetB w (validRule x)) := by
 obtain ⟨A0, c0, A1, c1, rfl, g0, g1⟩ := rd_Rule h
 obtain ⟨_, _, _, _, _, n1⟩ := Ty.rd_sl g1
 have HF := Lib.hid (validRule_eq x)
 go_enter Tryz.func24, Tryz.ntmps24
 go_wp2_with fail
 refine (C_impl_ValidPattern _ _ _ (Ty.rd_below b_2 g0)).mono ?_
 rintro e w1 ⟨rfl, hb1⟩
 obtain ⟨hc1, hf1⟩ := bcell hb1
 have z1 : w.heap.size < w1.heap.size := by have := hb1.size; simp only [World.size_alloc] at this; omega
 cases q0 : validPat x.1
 ·rw [q0] at HF
  go_wp2
  go_ret
  exact ⟨ret_bool (by rw [HF.out]; rfl), bel_trans b_2 hb1⟩
 rw [q0] at HF
 go_wp2_with fail
 have hw1 : Below w.heap.size w w1 := bel_trans b_2 hb1
 refine (C_impl_ValidPattern _ _ _ (Ty.rd_below hw1 g1)).mono ?_
 rintro e w2 ⟨rfl, hb2⟩
 have hv2 : Below (w.alloc (.cells #[.slice A0 (List.length x.1) c0, .slice A1 (List.length x.2) c1] 28)).heap.size (w.alloc (.cells #[.slice A0 (List.length x.1) c0, .slice A1 (List.length x.2) c1] 28)) w2 := bel_trans hb1 hb2
 clear hb2 hc1 hf1 hb1 z1 hw1
 obtain ⟨hc2, hf2⟩ := bcell hv2
 have z2 : w.heap.size < w2.heap.size := by have := hv2.size; simp only [World.size_alloc] at this; omega
 cases q1 : validPat x.2
 ·rw [q1] at HF
  go_wp2
  go_ret
  exact ⟨ret_bool (by rw [HF.out]; rfl), bel_trans b_2 hv2⟩
 rw [q1] at HF
 go_wp2
 go_loopw [19] (fun i wr => ∃ k : Nat, k ≤ x.2.length ∧ i = .int .i64 k ∧ (List.take k x.2).all (vrP x.1) = true ∧ Below (w.alloc (.cells #[.slice A0 (List.length x.1) c0, .slice A1 (List.length x.2) c1] 28)).heap.size (w.alloc (.cells #[.slice A0 (List.length x.1) c0, .slice A1 (List.length x.2) c1] 28)) wr) (fun i _ => x.2.length - (intOf i).toNat)
 case atStart => exact ⟨0, by omega, rfl, by first | rfl | simp, hv2⟩
 case round =>
  obtain ⟨k, hk, rfl, ht, hb⟩ := hrel
  have hw : Below w.heap.size w wr := bel_trans b_2 hb
  obtain ⟨hc, hf⟩ := bcell hb
  have z3 : w.heap.size < wr.heap.size := by have := hb.size; simp only [World.size_alloc] at this; omega
  have HT := Lib.hid ht
  clear ht
  by_cases hlt : k < x.2.length
  ·have HS := Lib.hid (all_take_succ (vrP x.1) x.2 hlt)
   have HN := Lib.hid (fun q => all_false_of (vrP x.1) x.2 hlt q)
   obtain ⟨b, o, ds, rfl, hl, hcell, hrd⟩ := Ty.rd_at (Ty.rd_below hw g1) hlt
   obtain ⟨rfl, hsl⟩ := hrd
   have e0 : wr.cell? ⟨b, o + k, none⟩ = some (vS x.2[k]) := by simpa [Ty.sz] using hcell 0 b_21
   have HP := Lib.hid (show vrP x.1 x.2[k] = (!isVar x.2[k] || x.1.any (eqs x.2[k])) from rfl)
   clear hcell hl
   go_wp2_with fail
   refine (C_impl_isVariable _ _ hsl).mono ?_
   rintro e w3 ⟨rfl, rfl⟩
   cases q3 : isVar x.2[k]
   ·rw [q3] at HP
    go_wp2
    exact ⟨⟨k + 1, by omega, by go_num, by rw [HS.out, HT.out, HP.out]; rfl, hb⟩, by simp [intOf]; omega⟩
   ·rw [q3] at HP
    go_wp2_with fail
    refine (C_Contains_str _ _ x.1 _ (Ty.rd_below hw g0) hsl).mono ?_
    rintro e w4 ⟨rfl, rfl⟩
    cases q4 : x.1.any (eqs x.2[k])
    ·rw [q4] at HP
     go_wp2
     go_ret
     exact ⟨ret_bool (by rw [HF.out, HN.out HP.out]; rfl), hw⟩
    ·rw [q4] at HP
     go_wp2
     exact ⟨⟨k + 1, by omega, by go_num, by rw [HS.out, HT.out, HP.out]; rfl, hb⟩, by simp [intOf]; omega⟩
  ·have HE : Hid (List.all x.2 (vrP x.1) = true) := by have := HT.out; rwa [List.take_of_length_le b_22] at this
   go_wp2
   go_ret
   exact ⟨ret_bool (by rw [HF.out, HE.out]; rfl), hw⟩
abbrev tBinding : Ty := .pr .str .str
theorem rd_Binding {w : World} {cs : List Value} {x : tBinding.D} (h : tBinding.rd w cs x) : cs = [vS x.1, vS x.2] ∧ x.1.length ≤ 9223372036854775807 ∧ x.2.length ≤ 9223372036854775807 := by
 obtain ⟨c1, c2, rfl, ⟨rfl, h1⟩, ⟨rfl, h2⟩⟩ := h
 exact ⟨rfl, h1, h2⟩
theorem rd_Binding_mk {w : World} {x : tBinding.D} (h1 : x.1.length ≤ 9223372036854775807) (h2 : x.2.length ≤ 9223372036854775807) : tBinding.rd w [vS x.1, vS x.2] x := ⟨[_], [_], rfl, ⟨rfl, h1⟩, ⟨rfl, h2⟩⟩
set_option maxHeartbeats 1000000 in
theorem C_IndexFunc_Rule (w : World) (v : Value) (x : List (Ty.D tRule)) (p : Ty.D tRule → Bool) (g : Nat) (lb : Array Value) (eg : ∀ args w, (callFunc g args).run Tryz.prog w = .ok (.enter g args) w)
  (h : (Ty.sl tRule).rd w [v] x) (hp : ∀ (W : World) (ds : List Value) (d : Ty.D tRule), d ∈ x → Ty.rd W tRule ds d → Below w.heap.size w W → Calls Tryz.prog g (#[.agg ds.toArray] ++ lb) W (RetB W (p d))) :
  Calls Tryz.prog 37 #[v, .func (.func g) #[] lb] w (RetI w (ixf p x)) := by
 obtain ⟨A, c, rfl, hc, hm, hn⟩ := Ty.rd_sl h
 have HP := Lib.hid hp
 clear hp
 go_enter Tryz.func37, Tryz.ntmps37
 go_wp2
 go_loopw [8] (fun i wr => ∃ k : Nat, k ≤ x.length ∧ i = .int .i64 k ∧ (x.take k).any p = false ∧ Below w.heap.size w wr) (fun i _ => x.length - (intOf i).toNat)
 case atStart => exact ⟨0, by omega, by first | rfl | simp, by first | rfl | simp, Below.refl _ _⟩
 case round =>
  obtain ⟨k, hk, rfl, ht, hb⟩ := hrel
  have HT := Lib.hid ht
  clear ht
  by_cases hlt : k < x.length
  ·have HS := Lib.hid (any_take_succ p x hlt)
   obtain ⟨b, o, ds, rfl, hl, hcell, hrd⟩ := Ty.rd_at (Ty.rd_below hb h) hlt
   have hcall := HP.out wr ds x[k] (List.getElem_mem hlt) hrd hb
   obtain ⟨Aa0, ca0, Aa1, ca1, rfl, sag0, sag1⟩ := rd_Rule hrd
   have e0 : wr.cell? ⟨b, o + k * 2, none⟩ = some (.slice Aa0 (List.length x[k].1) ca0) := by simpa [Ty.sz] using hcell 0 b_21
   have e1 : wr.cell? ⟨b, o + k * 2 + 1, none⟩ = some (.slice Aa1 (List.length x[k].2) ca1) := by simpa [Ty.sz] using hcell 1 b_21
   clear hcell hl
   cases hq : p x[k]
   ·have HQ := Lib.hid hq
    rw [hq] at hcall
    go_wp2_with (go_at_fn g; refine hcall.mono ?_; rintro e w' ⟨rfl, hb'⟩)
    go_roundw
    case rel => exact ⟨k + 1, by omega, by go_num, by rw [HS.out, HT.out, HQ.out]; rfl, bel_trans hb hb'⟩
    case measure => simp [intOf]; omega
   ·have HQ := Lib.hid hq
    rw [hq] at hcall
    go_wp2_with (go_at_fn g; refine hcall.mono ?_; rintro e w' ⟨rfl, hb'⟩)
    go_ret
    exact ⟨ret_int (ixf_hit p x hlt HT.out HQ.out).symm, bel_trans hb hb'⟩
  ·have HE : Hid (x.any p = false) := by have := HT.out; rwa [List.take_of_length_le b_22] at this
   go_wp2
   go_ret
   exact ⟨ret_int (ixf_miss p x HE.out).symm, hb⟩
set_option maxHeartbeats 1000000 in
theorem C_ContainsFunc_Rule (w : World) (v : Value) (x : List (Ty.D tRule)) (p : Ty.D tRule → Bool) (g : Nat) (lb : Array Value) (eg : ∀ args w, (callFunc g args).run Tryz.prog w = .ok (.enter g args) w)
  (h : (Ty.sl tRule).rd w [v] x) (hp : ∀ (W : World) (ds : List Value) (d : Ty.D tRule), d ∈ x → Ty.rd W tRule ds d → Below w.heap.size w W → Calls Tryz.prog g (#[.agg ds.toArray] ++ lb) W (RetB W (p d))) :
  Calls Tryz.prog 45 #[v, .func (.func g) #[] lb] w (RetB w (x.any p)) := by
 have hcall := C_IndexFunc_Rule w v x p g lb eg h hp
 go_enter Tryz.func45, Tryz.ntmps45
 go_wp2_with fail
 refine hcall.mono ?_
 rintro e w1 ⟨rfl, hb⟩
 go_wp2
 go_ret
 exact ⟨ret_bool (ixf_ge p x), hb⟩
set_option maxHeartbeats 1000000 in
theorem C_IndexFunc_Binding (w : World) (v : Value) (x : List (Ty.D tBinding)) (p : Ty.D tBinding → Bool) (g : Nat) (lb : Array Value) (eg : ∀ args w, (callFunc g args).run Tryz.prog w = .ok (.enter g args) w)
  (h : (Ty.sl tBinding).rd w [v] x) (hp : ∀ (W : World) (ds : List Value) (d : Ty.D tBinding), d ∈ x → Ty.rd W tBinding ds d → Below w.heap.size w W → Calls Tryz.prog g (#[.agg ds.toArray] ++ lb) W (RetB W (p d))) :
  Calls Tryz.prog 63 #[v, .func (.func g) #[] lb] w (RetI w (ixf p x)) := by
 obtain ⟨A, c, rfl, hc, hm, hn⟩ := Ty.rd_sl h
 have HP := Lib.hid hp
 clear hp
 go_enter Tryz.func63, Tryz.ntmps63
 go_wp2
 go_loopw [8] (fun i wr => ∃ k : Nat, k ≤ x.length ∧ i = .int .i64 k ∧ (x.take k).any p = false ∧ Below w.heap.size w wr) (fun i _ => x.length - (intOf i).toNat)
 case atStart => exact ⟨0, by omega, by first | rfl | simp, by first | rfl | simp, Below.refl _ _⟩
 case round =>
  obtain ⟨k, hk, rfl, ht, hb⟩ := hrel
  have HT := Lib.hid ht
  clear ht
  by_cases hlt : k < x.length
  ·have HS := Lib.hid (any_take_succ p x hlt)
   obtain ⟨b, o, ds, rfl, hl, hcell, hrd⟩ := Ty.rd_at (Ty.rd_below hb h) hlt
   have hcall := HP.out wr ds x[k] (List.getElem_mem hlt) hrd hb
   obtain ⟨rfl, sag0, sag1⟩ := rd_Binding hrd
   have e0 : wr.cell? ⟨b, o + k * 2, none⟩ = some (vS x[k].1) := by simpa [Ty.sz] using hcell 0 b_21
   have e1 : wr.cell? ⟨b, o + k * 2 + 1, none⟩ = some (vS x[k].2) := by simpa [Ty.sz] using hcell 1 b_21
   clear hcell hl
   cases hq : p x[k]
   ·have HQ := Lib.hid hq
    rw [hq] at hcall
    go_wp2_with (go_at_fn g; refine hcall.mono ?_; rintro e w' ⟨rfl, hb'⟩)
    go_roundw
    case rel => exact ⟨k + 1, by omega, by go_num, by rw [HS.out, HT.out, HQ.out]; rfl, bel_trans hb hb'⟩
    case measure => simp [intOf]; omega
   ·have HQ := Lib.hid hq
    rw [hq] at hcall
    go_wp2_with (go_at_fn g; refine hcall.mono ?_; rintro e w' ⟨rfl, hb'⟩)
    go_ret
    exact ⟨ret_int (ixf_hit p x hlt HT.out HQ.out).symm, bel_trans hb hb'⟩
  ·have HE : Hid (x.any p = false) := by have := HT.out; rwa [List.take_of_length_le b_22] at this
   go_wp2
   go_ret
   exact ⟨ret_int (ixf_miss p x HE.out).symm, hb⟩
theorem hmf_ {P : Program} : ∀ (fn : Fn) (first cap : Array Value) (w : World), (Instr.makeFunc fn first cap).run P w = .ok (.func fn first cap) w := fun _ _ _ _ => rfl
end Go.Proofs.YtidnahocnhcoiaaGreatDoor
namespace Go.Proofs.YtidnahocnhcoiaaGreatDoor
open Go.RowKit
set_option linter.unusedVariables false
set_option linter.unusedSimpArgs false
set_option maxHeartbeats 4000000 in
theorem C_spec_ValidRule (w : World) (cs : List Value) (x : tRule.D) (h : tRule.rd w cs x) (s0 : Ty.bulk tRule x ≤ 1048576) :
  Calls Tryz.prog 25 #[.agg cs.toArray] w (RetB w (validRule x)) := by
 obtain ⟨A0, c0, A1, c1, rfl, g0, g1⟩ := rd_Rule h
 obtain ⟨_, _, _, _, _, n1⟩ := Ty.rd_sl g1
 have HF := Lib.hid (validRule_eq x)
 have kb0 : (w.alloc (.cells #[.slice A0 (List.length x.1) c0, .slice A1 (List.length x.2) c1] 28)).cell? ⟨w.heap.size, 0, none⟩ = some (.slice A0 (List.length x.1) c0) := cell_new w _ _ 0 rfl
 have kb1 : (w.alloc (.cells #[.slice A0 (List.length x.1) c0, .slice A1 (List.length x.2) c1] 28)).cell? ⟨w.heap.size, 1, none⟩ = some (.slice A1 (List.length x.2) c1) := cell_new w _ _ 1 rfl
 have hvb : Below w.heap.size w (w.alloc (.cells #[.slice A0 (List.length x.1) c0, .slice A1 (List.length x.2) c1] 28)) := b_2
 have hzb : w.heap.size < (w.alloc (.cells #[.slice A0 (List.length x.1) c0, .slice A1 (List.length x.2) c1] 28)).heap.size := by rw [World.size_alloc]; omega
 go_enter Tryz.func25, Tryz.ntmps25
 go_wp2_with fail
 generalize w.alloc (.cells #[.slice A0 (List.length x.1) c0, .slice A1 (List.length x.2) c1] 28) = WB at kb0 kb1 hvb hzb ⊢
 refine (C_spec_ValidPattern _ _ _ (Ty.rd_below hvb g0)).mono ?_
 rintro e w1 ⟨rfl, hb1⟩
 have HC : Hid (∀ W, Below WB.heap.size WB W → W.cell? ⟨w.heap.size, 0, none⟩ = some (.slice A0 (List.length x.1) c0) ∧ W.cell? ⟨w.heap.size, 1, none⟩ = some (.slice A1 (List.length x.2) c1)) := fun W hW => ⟨(hW.cell (p := ⟨w.heap.size, 0, none⟩) hzb).trans kb0, (hW.cell (p := ⟨w.heap.size, 1, none⟩) hzb).trans kb1⟩
 clear kb0 kb1
 obtain ⟨k10, k11⟩ := HC.out _ hb1
 have hw1 : Below w.heap.size w w1 := bel_trans hvb hb1
 cases q0 : validPat x.1
 ·rw [q0] at HF
  go_wp2
  go_ret
  exact ⟨ret_bool (by rw [HF.out]; rfl), hw1⟩
 rw [q0] at HF
 go_wp2_with fail
 refine (C_spec_ValidPattern _ _ _ (Ty.rd_below hw1 g1)).mono ?_
 rintro e w2 ⟨rfl, hb2⟩
 have hv2 : Below WB.heap.size WB w2 := bel_trans hb1 hb2
 clear k10 k11
 obtain ⟨k20, k21⟩ := HC.out _ hv2
 have hw2 : Below w.heap.size w w2 := bel_trans hvb hv2
 cases q1 : validPat x.2
 ·rw [q1] at HF
  go_wp2
  go_ret
  exact ⟨ret_bool (by rw [HF.out]; rfl), hw2⟩
 rw [q1] at HF
 go_wp2
 clear k20 k21
 go_loopw [3] (fun i wr => ∃ k : Nat, k ≤ x.2.length ∧ i = .int .i64 k ∧ (List.take k x.2).all (vrP x.1) = true ∧ Below WB.heap.size WB wr) (fun i _ => x.2.length - (intOf i).toNat)
 case atStart => exact ⟨0, by omega, rfl, by first | rfl | simp, hv2⟩
 case round =>
  obtain ⟨k, hk, rfl, ht, hb⟩ := hrel
  have hw : Below w.heap.size w wr := bel_trans hvb hb
  obtain ⟨k0, k1⟩ := HC.out _ hb
  have HT := Lib.hid ht
  clear ht
  by_cases hlt : k < x.2.length
  ·have HS := Lib.hid (all_take_succ (vrP x.1) x.2 hlt)
   have HN := Lib.hid (fun q => all_false_of (vrP x.1) x.2 hlt q)
   obtain ⟨b, o, ds, rfl, hl, hcell, hrd⟩ := Ty.rd_at (Ty.rd_below hw g1) hlt
   obtain ⟨rfl, hsl⟩ := hrd
   have e0 : wr.cell? ⟨b, o + k, none⟩ = some (vS x.2[k]) := by simpa [Ty.sz] using hcell 0 b_21
   have HP := Lib.hid (show vrP x.1 x.2[k] = (!isVar x.2[k] || x.1.any (eqs x.2[k])) from rfl)
   clear hcell hl
   have hlb : b < wr.heap.size := World.block_lt_of_cell? wr _ e0
   have HH : Hid (∀ W, Below wr.heap.size wr W → Below WB.heap.size WB W ∧ W.cell? ⟨w.heap.size, 0, none⟩ = some (.slice A0 (List.length x.1) c0) ∧ W.cell? ⟨w.heap.size, 1, none⟩ = some (.slice (some ⟨b, o, none⟩) (List.length x.2) c1) ∧ W.cell? ⟨b, o + k, none⟩ = some (vS x.2[k])) := fun W hW =>
    ⟨bel_trans hb hW, (HC.out _ (bel_trans hb hW)).1, (HC.out _ (bel_trans hb hW)).2, (hW.cell (p := ⟨b, o + k, none⟩) hlb).trans e0⟩
   have hv0 : Below wr.heap.size wr wr := Below.refl _ _
   have i0 : (0 : Int) ≤ (k : Int) := by omega
   have i1 : (k : Int) < (x.2.length : Int) := by omega
   cases q3 : isVar x.2[k]
   ·rw [q3] at HP
    go_wp2_with fail
    refine wp_region_noPanic ?_
    refine wp_region_held_drew (S := (fun W => Below WB.heap.size WB W ∧ W.cell? ⟨w.heap.size, 0, none⟩ = some (.slice A0 (List.length x.1) c0) ∧ W.cell? ⟨w.heap.size, 1, none⟩ = some (.slice (some ⟨b, o, none⟩) (List.length x.2) c1) ∧ W.cell? ⟨b, o + k, none⟩ = some (vS x.2[k]))) b_20 ?_ (fun hHeld => ?_)
    ·exact HH.out _ b_2
    refine tkz4 0 1 2 3 ?_
    try simp only [layz]
    refine tkz2 4 5 ?_
    try simp only [layz]
    refine rz1 6 (fun K hK => ?_)
    go_simp
    go_at_call 51
    refine (C_spec_l5Letter _ _ hsl).mono ?_
    rw [q3]
    rintro e w3 ⟨rfl, hw3⟩
    subst hw3
    refine hK.out _ _ (HH.out _ b_2) (fun hHeld => ?_)
    clear hK K
    try simp only [layz]
    refine tkz 7 ?_
    try simp only [layz]
    refine skz 8 ?_
    try simp only [layz]
    refine skz 9 ?_
    try simp only [layz]
    refine skz 10 ?_
    try simp only [layz]
    refine skz 11 ?_
    try simp only [layz]
    refine skz 12 ?_
    try simp only [layz]
    refine skz 13 ?_
    try simp only [layz]
    refine skz 14 ?_
    try simp only [layz]
    refine skz 15 ?_
    try simp only [layz]
    refine skz 16 ?_
    try simp only [layz]
    refine skz 17 ?_
    try simp only [layz]
    refine tkz 18 ?_
    try simp only [layz]
    refine wpAnyH_done b_20 ?_ _
    refine NoPanic.normal ?_
    go_wp2
    exact ⟨⟨k + 1, by omega, by go_num, by rw [HS.out, HT.out, HP.out]; rfl, b_0⟩, by simp [intOf]; omega⟩
   ·rw [q3] at HP
    cases q4 : x.1.any (eqs x.2[k])
    ·rw [q4] at HP
     go_wp2_with fail
     refine wp_region_noPanic ?_
     refine wp_region_held_drew (S := (fun W => Below WB.heap.size WB W ∧ W.cell? ⟨w.heap.size, 0, none⟩ = some (.slice A0 (List.length x.1) c0) ∧ W.cell? ⟨w.heap.size, 1, none⟩ = some (.slice (some ⟨b, o, none⟩) (List.length x.2) c1) ∧ W.cell? ⟨b, o + k, none⟩ = some (vS x.2[k]))) b_20 ?_ (fun hHeld => ?_)
     ·exact HH.out _ b_2
     refine tkz4 0 1 2 3 ?_
     try simp only [layz]
     refine tkz2 4 5 ?_
     try simp only [layz]
     refine rz1 6 (fun K hK => ?_)
     go_simp
     go_at_call 51
     refine (C_spec_l5Letter _ _ hsl).mono ?_
     rw [q3]
     rintro e w3 ⟨rfl, hw3⟩
     subst hw3
     refine hK.out _ _ (HH.out _ b_2) (fun hHeld => ?_)
     clear hK K
     try simp only [layz]
     refine tkz4 7 8 9 10 ?_
     try simp only [layz]
     refine tkz4 11 12 13 14 ?_
     try simp only [layz]
     refine tkz 15 ?_
     try simp only [layz]
     refine rz1 16 (fun K hK => ?_)
     go_simp
     go_at_call 52
     refine (C_spec_l10Has _ _ x.1 _ (Ty.rd_below b_0 (Ty.rd_below hw g0)) hsl).mono ?_
     rw [q4]
     rintro e w4 ⟨rfl, hb4⟩
     refine hK.out _ _ (HH.out _ b_0) (fun hHeld => ?_)
     clear hK K
     try simp only [layz]
     refine tkz2 17 18 ?_
     try simp only [layz]
     refine wpAnyH_done b_20 ?_ _
     refine NoPanic.normal ?_
     go_wp2
     go_ret
     exact ⟨ret_bool (by rw [HF.out, HN.out HP.out]; rfl), b_0⟩
    ·rw [q4] at HP
     go_wp2_with fail
     refine wp_region_noPanic ?_
     refine wp_region_held_drew (S := (fun W => Below WB.heap.size WB W ∧ W.cell? ⟨w.heap.size, 0, none⟩ = some (.slice A0 (List.length x.1) c0) ∧ W.cell? ⟨w.heap.size, 1, none⟩ = some (.slice (some ⟨b, o, none⟩) (List.length x.2) c1) ∧ W.cell? ⟨b, o + k, none⟩ = some (vS x.2[k]))) b_20 ?_ (fun hHeld => ?_)
     ·exact HH.out _ b_2
     refine tkz4 0 1 2 3 ?_
     try simp only [layz]
     refine tkz2 4 5 ?_
     try simp only [layz]
     refine rz1 6 (fun K hK => ?_)
     go_simp
     go_at_call 51
     refine (C_spec_l5Letter _ _ hsl).mono ?_
     rw [q3]
     rintro e w3 ⟨rfl, hw3⟩
     subst hw3
     refine hK.out _ _ (HH.out _ b_2) (fun hHeld => ?_)
     clear hK K
     try simp only [layz]
     refine tkz4 7 8 9 10 ?_
     try simp only [layz]
     refine tkz4 11 12 13 14 ?_
     try simp only [layz]
     refine tkz 15 ?_
     try simp only [layz]
     refine rz1 16 (fun K hK => ?_)
     go_simp
     go_at_call 52
     refine (C_spec_l10Has _ _ x.1 _ (Ty.rd_below b_0 (Ty.rd_below hw g0)) hsl).mono ?_
     rw [q4]
     rintro e w4 ⟨rfl, hb4⟩
     refine hK.out _ _ (HH.out _ b_0) (fun hHeld => ?_)
     clear hK K
     try simp only [layz]
     refine tkz2 17 18 ?_
     try simp only [layz]
     refine wpAnyH_done b_20 ?_ _
     refine NoPanic.normal ?_
     go_wp2
     exact ⟨⟨k + 1, by omega, by go_num, by rw [HS.out, HT.out, HP.out]; rfl, b_0⟩, by simp [intOf]; omega⟩
  ·have HE : Hid (List.all x.2 (vrP x.1) = true) := by have := HT.out; rwa [List.take_of_length_le b_22] at this
   go_wp2
   go_ret
   exact ⟨ret_bool (by rw [HF.out, HE.out]; rfl), hw⟩
set_option maxHeartbeats 1000000 in
theorem C_spec_ValidRules (w : World) (v : Value) (x : List (Ty.D tRule)) (h : (Ty.sl tRule).rd w [v] x) (s0 : Ty.bulk (.sl tRule) x ≤ 1048576) :
  Calls Tryz.prog 23 #[v] w (RetB w (validRules x)) := by
 obtain ⟨A, c, rfl, hc, hm, hn⟩ := Ty.rd_sl h
 have HF := Lib.hid (show validRules x = (x.all validRule && decide (x.length ≤ 8)) from rfl)
 go_enter Tryz.func23, Tryz.ntmps23
 go_wp2
 go_loopw [3] (fun i wr => ∃ k : Nat, k ≤ x.length ∧ i = .int .i64 k ∧ (x.take k).all validRule = true ∧ Below w.heap.size w wr) (fun i _ => x.length - (intOf i).toNat)
 case atStart => exact ⟨0, by omega, rfl, by first | rfl | simp, Below.refl _ _⟩
 case round =>
  obtain ⟨k, hk, rfl, ht, hb⟩ := hrel
  have HT := Lib.hid ht
  clear ht
  by_cases hlt : k < x.length
  ·have HS := Lib.hid (all_take_succ validRule x hlt)
   have HN := Lib.hid (fun q => all_false_of validRule x hlt q)
   obtain ⟨b, o, ds, rfl, hl, hcell, hrd⟩ := Ty.rd_at (Ty.rd_below hb h) hlt
   have hrd' := hrd
   obtain ⟨Aa0, ca0, Aa1, ca1, rfl, sag0, sag1⟩ := rd_Rule hrd
   have e0 : wr.cell? ⟨b, o + k * 2, none⟩ = some (.slice Aa0 (List.length x[k].1) ca0) := by simpa [Ty.sz] using hcell 0 b_21
   have e1 : wr.cell? ⟨b, o + k * 2 + 1, none⟩ = some (.slice Aa1 (List.length x[k].2) ca1) := by simpa [Ty.sz] using hcell 1 b_21
   clear hcell hl
   go_wp2_with fail
   refine (C_spec_ValidRule _ _ _ hrd' (Ty.bulk_at s0 hlt)).mono ?_
   rintro e w1 ⟨rfl, hb1⟩
   have hw1 : Below w.heap.size w w1 := bel_trans hb hb1
   cases q0 : validRule x[k]
   ·have HQ := Lib.hid q0
    go_wp2
    go_ret
    exact ⟨ret_bool (by rw [HF.out, HN.out HQ.out]; rfl), hw1⟩
   ·have HQ := Lib.hid q0
    go_wp2
    exact ⟨⟨k + 1, by omega, by go_num, by rw [HS.out, HT.out, HQ.out]; rfl, hw1⟩, by simp [intOf]; omega⟩
  ·have HE : Hid (x.all validRule = true) := by have := HT.out; rwa [List.take_of_length_le b_22] at this
   go_wp2
   go_ret
   exact ⟨ret_bool (by rw [HF.out, HE.out]; (rw [Bool.eq_iff_iff]; simp; try omega)), hb⟩
set_option maxHeartbeats 1000000 in
theorem C_impl_ValidRules1 (W : World) (ds : List Value) (x : tRule.D) (h : tRule.rd W ds x) (s0 : Ty.bulk tRule x ≤ 1048576) :
  Calls Tryz.prog 46 #[.agg ds.toArray] W (RetB W (!validRule x)) := by
 have h' := h
 obtain ⟨A0, c0, A1, c1, rfl, g0, g1⟩ := rd_Rule h
 go_enter Tryz.func46, Tryz.ntmps46
 go_wp2_with fail
 refine (C_impl_ValidRule _ _ _ (Ty.rd_below b_2 h') s0).mono ?_
 rintro e w1 ⟨rfl, hb1⟩
 go_wp2
 go_ret
 exact ⟨rfl, b_0⟩
set_option maxHeartbeats 1000000 in
theorem C_impl_ValidRules (w : World) (v : Value) (x : List (Ty.D tRule)) (h : (Ty.sl tRule).rd w [v] x) (s0 : Ty.bulk (.sl tRule) x ≤ 1048576) :
  Calls Tryz.prog 22 #[v] w (RetB w (validRules x)) := by
 obtain ⟨A, c, rfl, hc, hm, hn⟩ := Ty.rd_sl h
 have HF := Lib.hid (show validRules x = (x.all validRule && decide (x.length ≤ 8)) from rfl)
 by_cases hl : x.length ≤ 8
 ·have HL := Lib.hid hl
  go_enter Tryz.func22, Tryz.ntmps22
  go_wp2_with fail
  refine (C_ContainsFunc_Rule _ _ x (fun s => !validRule s) 46 #[] (enters_of Tryz.func46 b_20 rfl) (Ty.rd_below b_2 h) (fun W ds d hd hr _ => by rw [Array.append_empty]; exact C_impl_ValidRules1 W ds d hr (by obtain ⟨i, hi, rfl⟩ := List.getElem_of_mem hd; exact Ty.bulk_at s0 hi))).mono ?_
  rintro e w1 ⟨rfl, hb⟩
  go_wp2
  go_ret
  exact ⟨ret_bool (by rw [HF.out]; have := HL.out; (rw [Bool.eq_iff_iff]; simp; try omega)), b_0⟩
 ·have HL := Lib.hid hl
  go_enter Tryz.func22, Tryz.ntmps22
  go_wp2
  go_ret
  exact ⟨ret_bool (by rw [HF.out]; have := HL.out; (rw [Bool.eq_iff_iff]; simp; try omega)), b_2⟩
theorem ppS_one {s : List UInt8} (h : s = [47]) : ppS s = ([], true) := by unfold ppS; rw [if_pos h]
theorem ppS_no {s : List UInt8} (h : ¬ s = [47]) (h2 : (decide (2 ≤ (spl 47 s).length) && decide ((spl 47 s).head? = some []) && validPat (spl 47 s).tail) = false) : ppS s = ([], false) := by unfold ppS; rw [if_neg h, h2]; rfl
theorem ppS_yes {s : List UInt8} (h : ¬ s = [47]) (h2 : (decide (2 ≤ (spl 47 s).length) && decide ((spl 47 s).head? = some []) && validPat (spl 47 s).tail) = true) : ppS s = ((spl 47 s).tail, true) := by unfold ppS; rw [if_neg h, if_pos h2]
set_option maxHeartbeats 2000000 in
theorem C_spec_ParsePattern (w : World) (s : List UInt8) (hs : s.length ≤ 1000000000) :
  Calls Tryz.prog 35 #[vS s] w (RetAgg2 w (.sl .str) (ppS s).1 (.bool (ppS s).2)) := by
 by_cases h1 : s = [47]
 ·have HY := Lib.hid (ppS_one h1)
  have q1 : (s == [47]) = true := by simp [h1]
  generalize ppS s = F at HY ⊢
  clear h1
  go_enter Tryz.func35, Tryz.ntmps35
  go_wp2
  refine bodyPost_ret (v := .tuple #[.agg #[.slice none 0 0], .bool true]) (by simp [results, Tryz.results35, go_sem]) rfl ?_
  rw [HY.out]
  exact ⟨[.slice none 0 0], [], rfl, rd_ow_nil _ _, FrI.nil _ _, b_2⟩
 have HNO := Lib.hid (fun h => ppS_no h1 h)
 have HYES := Lib.hid (fun h => ppS_yes h1 h)
 have q1 : (s == [47]) = false := by simp [h1]
 have hL := spl_pos 47 s
 have hcall : Calls Tryz.prog 34 #[vS s, .int .u8 47] (w.alloc (.cells #[.slice none 0 0] 26)) (RetRow flatS (w.alloc (.cells #[.slice none 0 0] 26)) 9 (spl 47 s)) := C_spec_l4Split _ s 47 hs
 generalize ppS s = F at HNO HYES ⊢
 generalize spl 47 s = L at HNO HYES hL hcall
 go_enter Tryz.func35, Tryz.ntmps35
 go_wp2_with fail
 refine hcall.mono ?_
 rintro e w1 ⟨v1, rfl, hr1, hb1⟩
 obtain ⟨A1, c1, fp1, rfl, how1, hfr1⟩ := hr1.own hb1.size
 have hcl : L.length ≤ c1 := by obtain ⟨A, c, h2, h3, _⟩ := how1; injection h2 with h2 _; injection h2 with _ _ h7; rw [h7]; exact h3
 obtain ⟨b, o, ds, rfl, hl, hcell, hrd⟩ := Ty.rd_at (Ty.ow_rd how1) hL
 obtain ⟨rfl, hsl⟩ := hrd
 have e0 : w1.cell? ⟨b, o, none⟩ = some (vS L[0]) := by simpa [Ty.sz] using hcell 0 b_21
 clear hcell hl hcall hr1 h1
 have hw1 : Below w.heap.size w w1 := bel_trans b_2 hb1
 have hB1 : Blk w1 w.heap.size 26 #[.slice none 0 0] := (Blk.new w _ _).below hb1 b_15
 have k1 : w1.cell? ⟨w.heap.size, 0, none⟩ = some (.slice none 0 0) := hB1.cell 0
 have f1 : w1.frozen? ⟨w.heap.size, 0, none⟩ = false := hB1.frozen 0
 have z1 : w.heap.size < w1.heap.size := hB1.lt
 have hbl : b < w1.heap.size := World.block_lt_of_cell? _ _ e0
 have hs1 := hb1.size
 simp only [World.size_alloc] at hs1 hfr1
 by_cases h2 : 2 ≤ L.length
 ·obtain ⟨fp2, how2, hfr2⟩ := Ty.ow_tail how1 b_22 hfr1
  have ht : L.drop 1 = L.tail := by simp
  rw [ht] at how2
  have hhead : L.head? = some L[0] := by cases L with | nil => simp at hL | cons a l => rfl
  have q2 : ¬ ((L.length : Int) < 2) := by omega
  have q4 : ¬ c1 = 1 := by omega
  have q5 : decide ((L.length : Int) < 2) = false := by simp; omega
  clear ht
  have how2 : (Ty.sl .str).ow w1 [.slice (some ⟨b, o + 1, none⟩) (L.length - 1) (c1 - 1)] L.tail fp2 := how2
  by_cases h3 : L[0] = []
  ·have q3 : L[0].isEmpty = true := by rw [h3]; rfl
   generalize hvv : validPat L.tail = vv at HNO HYES
   have HVV := Lib.hid hvv
   have HC : Hid ((decide (2 ≤ L.length) && decide (L.head? = some []) && vv) = vv) := by unfold Hid; rw [hhead, h3]; simp [h2]
   clear h3 hhead hvv
   go_wp2_with fail
   have hv := C_spec_ValidPattern (w1.alloc (.cells #[.slice (some ⟨b, o + 1, none⟩) (L.length - 1) (c1 - 1)] 26)) _ L.tail (Ty.rd_below b_2 (Ty.ow_rd how2))
   rw [HVV.out] at hv
   refine hv.mono ?_
   rintro e w2 ⟨rfl, hb2⟩
   clear hv
   have hs2 := hb2.size
   simp only [World.size_alloc] at hs2
   have hx2 : Below w1.heap.size w1 w2 := bel_trans (bel_alloc (Below.refl _ _) _) hb2
   have hw2 : Below w.heap.size w w2 := bel_trans hw1 hx2
   have hB2 := hB1.below hx2 z1
   have hP2 : Blk w2 w1.heap.size 26 #[.slice (some ⟨b, o + 1, none⟩) (L.length - 1) (c1 - 1)] := (Blk.new w1 _ _).below hb2 b_15
   have k2 : w2.cell? ⟨w.heap.size, 0, none⟩ = some (.slice none 0 0) := hB2.cell 0
   have f2 : w2.frozen? ⟨w.heap.size, 0, none⟩ = false := hB2.frozen 0
   have j2 : w2.cell? ⟨w1.heap.size, 0, none⟩ = some (.slice (some ⟨b, o + 1, none⟩) (L.length - 1) (c1 - 1)) := hP2.cell 0
   have z2 : w.heap.size < w2.heap.size := by omega
   have y2 : w1.heap.size < w2.heap.size := by omega
   clear k1 f1 e0
   cases vv with
   | false =>
    have HN := Lib.hid (HNO.out HC.out)
    go_wp2
    refine bodyPost_ret (v := .tuple #[.agg #[.slice none 0 0], .bool false]) (by simp [results, Tryz.results35, go_sem, k2, f2, z2]) rfl ?_
    rw [HN.out]
    exact ⟨[.slice none 0 0], [], rfl, rd_ow_nil _ _, FrI.nil _ _, b_2⟩
   | true =>
    have HY := Lib.hid (HYES.out HC.out)
    go_wp2
    refine bodyPost_ret (v := .tuple #[.agg #[.slice (some ⟨b, o + 1, none⟩) (L.length - 1) (c1 - 1)], .bool true]) (by simp [results, Tryz.results35, go_sem, k2, f2, z2]) rfl ?_
    rw [HY.out]
    exact ⟨[.slice (some ⟨b, o + 1, none⟩) (L.length - 1) (c1 - 1)], fp2, rfl, Ty.ow_keep (by intro b hb'; have hb'' := (hfr2).2 b hb'; (try simp only [szz] at hb''); repeat (first | (with_reducible rfl) | (rw [Below.heap_setCell _ _ _ _ (by (try dsimp only); omega)]) | (rw [Below.heap_alloc _ _ _ b_10]) | (rw [hx2.block _ b_16]))) how2, hfr2.mono b_16 b_16, b_2⟩
  ·have q3 : L[0].isEmpty = false := by cases hq : L[0] with | nil => exact absurd hq h3 | cons a l => rfl
   have HN := Lib.hid (HNO.out (by rw [hhead]; simp [h3]))
   clear h3
   go_wp2
   refine bodyPost_ret (v := .tuple #[.agg #[.slice none 0 0], .bool false]) (by simp [results, Tryz.results35, go_sem, k1, f1, z1]) rfl ?_
   rw [HN.out]
   exact ⟨[.slice none 0 0], [], rfl, rd_ow_nil _ _, FrI.nil _ _, b_2⟩
 ·have HN := Lib.hid (HNO.out (by simp; omega))
  have q2 : ((L.length : Int) < 2) := by omega
  go_wp2
  all_goals refine bodyPost_ret (v := .tuple #[.agg #[.slice none 0 0], .bool false]) (by simp [results, Tryz.results35, go_sem, k1, f1, z1]) rfl ?_
  all_goals rw [HN.out]
  all_goals exact ⟨[.slice none 0 0], [], rfl, rd_ow_nil _ _, FrI.nil _ _, b_2⟩
theorem prS_no3 {s : List UInt8} (h : ¬ ((spl 32 s).length = 3 ∧ (spl 32 s)[1]? = some [60])) : prS s = (([], []), false) := by unfold prS; rw [if_neg h]
theorem prS_3 {s : List UInt8} {x m y : List UInt8} (h : spl 32 s = [x, m, y]) (hm : m = [60]) : prS s = if (ppS x).2 && (ppS y).2 && validRule (ruleOf (ppS x) (ppS y)) then (ruleOf (ppS x) (ppS y), true) else (([], []), false) := by
 unfold prS; rw [h, if_pos ⟨rfl, by rw [hm]; rfl⟩]; rfl
theorem spl_part_len {s x : List UInt8} (h : x ∈ spl 32 s) : x.length ≤ s.length := by
 have : ∀ (l : List UInt8), ∀ a ∈ spl 32 l, a.length ≤ l.length := by
  intro l
  induction l with
  | nil => intro a ha; simp [spl] at ha; subst ha; exact Nat.le_refl _
  | cons b l ih =>
   intro a ha
   unfold spl at ha
   split at ha
   ·rcases List.mem_cons.1 ha with rfl | ha
    ·simp
    ·have := ih a ha; simp; omega
   ·split at ha
    ·rename_i x t hx
     rw [hx] at ih
     rcases List.mem_cons.1 ha with rfl | ha
     ·have := ih x b_23; simp; omega
     ·have := ih a (by simp [ha]); simp; omega
    ·rename_i hx; exact absurd hx (spl_ne _ _)
 exact this s x h
theorem rd_Rule_mk' {w : World} {x : tRule.D} {v0 v1 : Value} (h0 : (Ty.sl .str).rd w [v0] x.1) (h1 : (Ty.sl .str).rd w [v1] x.2) : tRule.rd w [v0, v1] x := ⟨[v0], [v1], rfl, h0, h1⟩
theorem ow_zeroRule (w : World) : tRule.ow w [.slice none 0 0, .slice none 0 0] ([], []) ([] ++ []) := ⟨[.slice none 0 0], [.slice none 0 0], [], [], rfl, rfl, rd_ow_nil _ _, rd_ow_nil _ _⟩
set_option maxHeartbeats 4000000 in
theorem C_spec_ParseRule (w : World) (s : List UInt8) (hs : s.length ≤ 1000000000) :
  Calls Tryz.prog 9 #[vS s] w (RetAgg2 w tRule (prS s).1 (.bool (prS s).2)) := by
 have HNO := Lib.hid (fun h => prS_no3 (s := s) h)
 have HY3 := Lib.hid (fun x m y h hm => prS_3 (s := s) (x := x) (m := m) (y := y) h hm)
 have HPL := Lib.hid (fun x h => spl_part_len (s := s) (x := x) h)
 have hcall : Calls Tryz.prog 34 #[vS s, .int .u8 32] (w.alloc (.cells #[.slice none 0 0, .slice none 0 0] 28)) (RetRow flatS (w.alloc (.cells #[.slice none 0 0, .slice none 0 0] 28)) 9 (spl 32 s)) := C_spec_l4Split _ s 32 hs
 generalize prS s = F at HNO HY3 ⊢
 have hL := spl_pos 32 s
 generalize spl 32 s = L at HNO HY3 HPL hL hcall
 go_enter Tryz.func9, Tryz.ntmps9
 go_wp2_with fail
 refine hcall.mono ?_
 rintro e w1 ⟨v1, rfl, hr1, hb1⟩
 obtain ⟨A1, c1, fp1, rfl, how1, hfr1⟩ := hr1.own hb1.size
 have hw1 : Below w.heap.size w w1 := bel_trans b_2 hb1
 have hB1 : Blk w1 w.heap.size 28 #[.slice none 0 0, .slice none 0 0] := (Blk.new w _ _).below hb1 b_15
 have k10 : w1.cell? ⟨w.heap.size, 0, none⟩ = some (.slice none 0 0) := hB1.cell 0
 have k11 : w1.cell? ⟨w.heap.size, 1, none⟩ = some (.slice none 0 0) := hB1.cell 1
 have f10 : w1.frozen? ⟨w.heap.size, 0, none⟩ = false := hB1.frozen 0
 have f11 : w1.frozen? ⟨w.heap.size, 1, none⟩ = false := hB1.frozen 1
 have z1 : w.heap.size < w1.heap.size := hB1.lt
 have hs1 := hb1.size
 simp only [World.size_alloc] at hs1 hfr1
 clear hcall
 by_cases h3 : L.length = 3
 ·obtain ⟨x, m, y, rfl⟩ : ∃ x m y, L = [x, m, y] := by
   match L, h3 with
   | [x, m, y], _ => exact ⟨x, m, y, rfl⟩
  obtain ⟨b, o, ds, rfl, hl, hcell, hrd⟩ := Ty.rd_at (Ty.ow_rd how1) (k := 0) b_23
  obtain ⟨rfl, hsl⟩ := hrd
  have e0 : w1.cell? ⟨b, o, none⟩ = some (vS x) := by simpa [Ty.sz] using hcell 0 b_21
  clear hl hcell hsl
  obtain ⟨b', o', ds, he, hl, hcell, hrd⟩ := Ty.rd_at (Ty.ow_rd how1) (k := 1) b_23
  injection he with he; injection he with he1 he2; subst he1; subst he2
  obtain ⟨rfl, hsl⟩ := hrd
  have e1 : w1.cell? ⟨b, o + 1, none⟩ = some (vS m) := by simpa [Ty.sz] using hcell 0 b_21
  clear hl hcell hsl
  obtain ⟨b', o', ds, he, hl, hcell, hrd⟩ := Ty.rd_at (Ty.ow_rd how1) (k := 2) b_23
  injection he with he; injection he with he1 he2; subst he1; subst he2
  obtain ⟨rfl, hsl⟩ := hrd
  have e2 : w1.cell? ⟨b, o + 2, none⟩ = some (vS y) := by simpa [Ty.sz] using hcell 0 b_21
  clear hl hcell hsl
  have hbl : b < w1.heap.size := World.block_lt_of_cell? _ _ e0
  by_cases hm : m = [60]
  ·have HF : Hid (F = _) := HY3.out x m y rfl hm
   have hxl : x.length ≤ s.length := HPL.out x b_23
   have hyl : y.length ≤ s.length := HPL.out y b_23
   have hp1 := fun W => C_spec_ParsePattern W x b_22
   have hp2 := fun W => C_spec_ParsePattern W y b_22
   have hq1 := ppS_bulk x
   have hq2 := ppS_bulk y
   generalize ppS x = a at hp1 hq1 HF
   generalize ppS y = b2 at hp2 hq2 HF
   have hbk : Ty.bulk tRule (ruleOf a b2) ≤ 1048576 := by show Ty.bulk (.sl .str) a.1 + Ty.bulk (.sl .str) b2.1 ≤ _; omega
   have qm : (m == [60]) = true := by simp [hm]
   clear hm HNO HY3 HPL h3
   have HFN := Lib.hid (fun (h : (a.2 && b2.2 && validRule (ruleOf a b2)) = false) => show F = (([], []), false) from by have := HF.out; rw [h] at this; exact this)
   have HFY := Lib.hid (fun (h : (a.2 && b2.2 && validRule (ruleOf a b2)) = true) => show F = (ruleOf a b2, true) from by have := HF.out; rw [if_pos h] at this; exact this)
   clear HF hr1 hL
   go_wp2_with fail
   refine (hp1 _).mono ?_
   rintro e w2 ⟨cs2, fp2, rfl, how2, hfr2, hb2⟩
   obtain ⟨A2, c2, rfl⟩ := Ty.ow_slv how2
   have hs2 := hb2.size
   have hw2 : Below w.heap.size w w2 := bel_trans hw1 hb2
   have hB2 := hB1.below hb2 z1
   have g1 : w2.cell? ⟨b, o + 1, none⟩ = some (vS m) := (hb2.cell (p := ⟨b, o + 1, none⟩) hbl).trans e1
   have g2 : w2.cell? ⟨b, o + 2, none⟩ = some (vS y) := (hb2.cell (p := ⟨b, o + 2, none⟩) hbl).trans e2
   have hbl2 : b < w2.heap.size := by omega
   have z2 : w.heap.size < w2.heap.size := by omega
   clear e0 e1 e2 k10 k11 f10 f11
   go_wp2_with fail
   refine (hp2 _).mono ?_
   rintro e w3 ⟨cs3, fp3, rfl, how3, hfr3, hb3⟩
   obtain ⟨A3, c3, rfl⟩ := Ty.ow_slv how3
   have hs3 := hb3.size
   simp only [World.size_alloc] at hs3 hfr3
   have hx3 : Below w2.heap.size w2 w3 := bel_trans (bel_alloc (Below.refl _ _) _) hb3
   have hw3 : Below w.heap.size w w3 := bel_trans hw2 hx3
   have hB3 := hB2.below hx3 z2
   have hP3 : Blk w3 w2.heap.size 26 #[.slice A2 a.1.length c2] := (Blk.new w2 _ _).below hb3 b_15
   have k30 : w3.cell? ⟨w.heap.size, 0, none⟩ = some (.slice none 0 0) := hB3.cell 0
   have k31 : w3.cell? ⟨w.heap.size, 1, none⟩ = some (.slice none 0 0) := hB3.cell 1
   have f30 : w3.frozen? ⟨w.heap.size, 0, none⟩ = false := hB3.frozen 0
   have f31 : w3.frozen? ⟨w.heap.size, 1, none⟩ = false := hB3.frozen 1
   have j3 : w3.cell? ⟨w2.heap.size, 0, none⟩ = some (.slice A2 a.1.length c2) := hP3.cell 0
   have z3 : w.heap.size < w3.heap.size := by omega
   have y3 : w2.heap.size < w3.heap.size := by omega
   have how2' : (Ty.sl .str).ow w3 [.slice A2 a.1.length c2] a.1 fp2 := Ty.ow_keep (by intro b hb'; have hb'' := (hfr2).2 b hb'; (try simp only [szz] at hb''); repeat (first | (with_reducible rfl) | (rw [Below.heap_setCell _ _ _ _ (by (try dsimp only); omega)]) | (rw [Below.heap_alloc _ _ _ b_10]) | (rw [hx3.block _ b_16]))) how2
   clear hp1 hp2 g1 g2
   cases qa : a.2 with
   | false =>
    have HN := Lib.hid (HFN.out (by rw [qa]; rfl))
    go_wp2
    refine bodyPost_ret (v := .tuple #[.agg #[.slice none 0 0, .slice none 0 0], .bool false]) (by simp [results, Tryz.results9, go_sem, k30, k31, f30, f31, z3]) rfl ?_
    rw [HN.out]
    exact ⟨_, _, rfl, ow_zeroRule _, FrI.nil _ _, b_2⟩
   | true =>
    cases qb : b2.2 with
    | false =>
     have HN := Lib.hid (HFN.out (by rw [qa, qb]; rfl))
     go_wp2
     refine bodyPost_ret (v := .tuple #[.agg #[.slice none 0 0, .slice none 0 0], .bool false]) (by simp [results, Tryz.results9, go_sem, k30, k31, f30, f31, z3]) rfl ?_
     rw [HN.out]
     exact ⟨_, _, rfl, ow_zeroRule _, FrI.nil _ _, b_2⟩
    | true =>
     go_wp2_with fail
     refine (C_spec_ValidRule _ _ (ruleOf a b2) (rd_Rule_mk' (Ty.rd_below b_2 (Ty.ow_rd how2')) (Ty.rd_below b_2 (Ty.ow_rd how3))) hbk).mono ?_
     rintro e w4 ⟨rfl, hb4⟩
     have hs4 := hb4.size
     simp only [World.size_alloc] at hs4
     have hx4 : Below w3.heap.size w3 w4 := bel_trans (bel_alloc (bel_alloc (Below.refl _ _) _) _) hb4
     have hw4 : Below w.heap.size w w4 := bel_trans hw3 hx4
     have hB4 := hB3.below hx4 z3
     have hR4 : Blk w4 (w3.heap.size + 1) 28 #[.slice A2 a.1.length c2, .slice A3 b2.1.length c3] := by
      have := (Blk.new (w3.alloc (.cells #[.slice A3 b2.1.length c3] 26)) 28 #[.slice A2 a.1.length c2, .slice A3 b2.1.length c3]).below hb4 b_14
      rwa [World.size_alloc] at this
     have k40 : w4.cell? ⟨w.heap.size, 0, none⟩ = some (.slice none 0 0) := hB4.cell 0
     have k41 : w4.cell? ⟨w.heap.size, 1, none⟩ = some (.slice none 0 0) := hB4.cell 1
     have f40 : w4.frozen? ⟨w.heap.size, 0, none⟩ = false := hB4.frozen 0
     have f41 : w4.frozen? ⟨w.heap.size, 1, none⟩ = false := hB4.frozen 1
     have r40 : w4.cell? ⟨w3.heap.size + 1, 0, none⟩ = some (.slice A2 a.1.length c2) := hR4.cell 0
     have r41 : w4.cell? ⟨w3.heap.size + 1, 1, none⟩ = some (.slice A3 b2.1.length c3) := hR4.cell 1
     have z4 : w.heap.size < w4.heap.size := by omega
     have y4 : w3.heap.size + 1 < w4.heap.size := by omega
     clear k30 k31 f30 f31 j3
     cases qv : validRule (ruleOf a b2) with
     | false =>
      have HN := Lib.hid (HFN.out (by rw [qa, qb, qv]; rfl))
      go_wp2
      refine bodyPost_ret (v := .tuple #[.agg #[.slice none 0 0, .slice none 0 0], .bool false]) (by simp [results, Tryz.results9, go_sem, k40, k41, f40, f41, z4]) rfl ?_
      rw [HN.out]
      exact ⟨_, _, rfl, ow_zeroRule _, FrI.nil _ _, b_2⟩
     | true =>
      have HY := Lib.hid (HFY.out (by rw [qa, qb, qv]; rfl))
      clear qv
      go_wp2
      refine bodyPost_ret (v := .tuple #[.agg #[.slice A2 a.1.length c2, .slice A3 b2.1.length c3], .bool true]) (by simp [results, Tryz.results9, go_sem, k40, k41, f40, f41, z4]) rfl ?_
      rw [HY.out]
      exact ⟨[.slice A2 a.1.length c2, .slice A3 b2.1.length c3], fp2 ++ fp3, rfl, ⟨[.slice A2 a.1.length c2], [.slice A3 b2.1.length c3], fp2, fp3, rfl, rfl, Ty.ow_keep (by intro b hb'; have hb'' := (hfr2).2 b hb'; (try simp only [szz] at hb''); repeat (first | (with_reducible rfl) | (rw [Below.heap_setCell _ _ _ _ (by (try dsimp only); omega)]) | (rw [Below.heap_alloc _ _ _ b_10]) | (rw [hx4.block _ b_16]) | (rw [hx3.block _ b_16]))) how2', Ty.ow_keep (by intro b hb'; have hb'' := (hfr3).2 b hb'; (try simp only [szz] at hb''); repeat (first | (with_reducible rfl) | (rw [Below.heap_setCell _ _ _ _ (by (try dsimp only); omega)]) | (rw [Below.heap_alloc _ _ _ b_10]) | (rw [hx4.block _ b_16]))) how3⟩, FrI.app (hfr2.mono b_16 (Nat.le_refl _)) (hfr3.mono (Nat.le_refl _) b_16) b_16 b_16 b_16, b_2⟩
  ·have HN := Lib.hid (HNO.out (by rintro ⟨_, h⟩; simp at h; exact hm h))
   have qm : (m == [60]) = false := by simp [hm]
   clear hm
   go_wp2
   refine bodyPost_ret (v := .tuple #[.agg #[.slice none 0 0, .slice none 0 0], .bool false]) (by simp [results, Tryz.results9, go_sem, k10, k11, f10, f11, z1]) rfl ?_
   rw [HN.out]
   exact ⟨_, _, rfl, ow_zeroRule _, FrI.nil _ _, b_2⟩
 ·have HN := Lib.hid (HNO.out (fun h => h3 h.1))
  have q3 : ¬ ((L.length : Int) = 3) := by omega
  go_wp2
  refine bodyPost_ret (v := .tuple #[.agg #[.slice none 0 0, .slice none 0 0], .bool false]) (by simp [results, Tryz.results9, go_sem, k10, k11, f10, f11, z1]) rfl ?_
  rw [HN.out]
  exact ⟨_, _, rfl, ow_zeroRule _, FrI.nil _ _, b_2⟩
end Go.Proofs.YtidnahocnhcoiaaGreatDoor
