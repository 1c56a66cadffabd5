/- Texts of this claim, merged by a program: Pvl Has Vru Ixf Vrs. -/
import Derived.Test.YtldgbnlcnlfmeaaMo8
import Derived.Test.YtldgbnlcnlfmeaaMo5
import Derived.Test.YtldgbnlcnlfmeaaMo2
import Derived.Test.YtldgbnlcnlfmeaaMo0
/- Patterns are right. Printed by gen12.py. -/
namespace Go.Proofs.Ytldgbnlcnlfmeaa
open Go.RowKit
set_option linter.unusedVariables false
set_option linter.unusedSimpArgs false

def patUpto (p : List (List UInt8)) (k : Nat) : Bool := (List.range k).all (fun i => patPart p.length i (p.getD i []))
theorem patUpto_succ (p : List (List UInt8)) {k : Nat} (h : k < p.length) : patUpto p (k + 1) = (patUpto p k && patPart p.length k p[k]) := by
  unfold patUpto; rw [List.range_succ, List.all_append]; simp [List.getD, h]
theorem part_42 : validPart [42, 42] = false := by decide
theorem var_42 : isVar [42, 42] = false := by decide
theorem validPat_no (p : List (List UInt8)) {k : Nat} (h : k < p.length) (hq : patPart p.length k p[k] = false) : validPat p = false := by
  have : (List.range p.length).all (fun i => patPart p.length i (p.getD i [])) = false := by
    rw [List.all_eq_false]; exact ⟨k, by simpa using h, by simp [List.getD, h, hq]⟩
  unfold validPat; rw [this]; rfl
set_option maxHeartbeats 2000000 in
theorem C_spec_ValidPattern (w : World) (cs : List Value) (p : List (List UInt8)) (h : (Ty.sl .str).rd w cs p) :
    Calls Try.prog 180 #[.agg cs.toArray] w (RetB w (validPat p)) := by
  obtain ⟨A, c, rfl⟩ := Ty.rd_slv h
  obtain ⟨_, _, _, _, _, n0⟩ := Ty.rd_sl h
  go_enter Try.func180, Try.ntmps180
  go_wp2
  go_loopw [3] (fun i wr => ∃ k : Nat, k ≤ p.length ∧ i = .int .i64 k ∧ patUpto p k = true ∧ Below (w.alloc (.cells #[.slice A p.length c] 165)).heap.size (w.alloc (.cells #[.slice A p.length c] 165)) wr) (fun i _ => p.length - (intOf i).toNat)
  case atStart => exact ⟨0, by omega, rfl, by rfl, Below.refl _ _⟩
  case round =>
    obtain ⟨k, hk, rfl, ht, hb⟩ := hrel
    have hw : Below w.heap.size w wr := bel_trans (by repeat' (first | (with_reducible exact Below.refl _ _) | (with_reducible assumption) | (with_reducible refine bel_set ?_ (by (try dsimp only); omega) _) | (with_reducible refine bel_alloc ?_ _) | (with_reducible refine bel_drewN ?_ _) | (with_reducible refine bel_drew ?_))) hb
    obtain ⟨hc, hf⟩ := bcell hb
    have HT := Lib.hid ht
    clear ht
    by_cases hlt : k < p.length
    · have HS := Lib.hid (patUpto_succ p hlt)
      have HN := Lib.hid (fun q => validPat_no p hlt q)
      obtain ⟨b, o, ds, rfl, hl, hcell, hrd⟩ := Ty.rd_at (Ty.rd_below hw h) hlt
      obtain ⟨rfl, hsl⟩ := hrd
      have e0 : wr.cell? ⟨b, o + k, none⟩ = some (vS p[k]) := by simpa [Ty.sz] using hcell 0 (by decide)
      clear hcell hl
      have HP := Lib.hid (show patPart p.length k p[k] = (validPart p[k] || decide (p[k] = [42]) || isVar p[k] || (decide (p[k] = [42, 42]) && decide (k + 1 = p.length))) from rfl)
      go_wp2_with fail
      refine (C_spec_ValidPart _ _ hsl).mono ?_
      rintro e w1 ⟨rfl, rfl⟩
      go_wp2_with fail
      all_goals first
        | exact ⟨⟨k + 1, by omega, by go_num, by rw [HS.out, HT.out, HP.out]; simp [*, part_42, var_42]; try omega, hb⟩, by simp [intOf]; omega⟩
        | (refine (C_spec_l5Letter _ _ hsl).mono ?_
           rintro e w2 ⟨rfl, rfl⟩
           go_wp2
           all_goals (try simp only [Bool.not_eq_false', beq_iff_eq, Bool.not_eq_true', beq_eq_false_iff_ne, bne_iff_ne, bne_eq_false_iff_eq, ne_eq] at *)
           all_goals (try contradiction)
           all_goals first
             | exact ⟨⟨k + 1, by omega, by go_num, by rw [HS.out, HT.out, HP.out]; simp [*, part_42, var_42]; try omega, hb⟩, by simp [intOf]; omega⟩
             | exact ⟨⟨k + 1, by omega, by go_num, by rw [HS.out, HT.out, HP.out]; simp [*, part_42, var_42]; try omega, hb⟩, by simp [intOf]; omega⟩
             | (go_ret
                exact ⟨ret_bool (HN.out (by rw [HP.out]; simp [*, part_42, var_42]; try omega)).symm, hw⟩)
             | (go_ret
                exact ⟨ret_bool (HN.out (by rw [HP.out]; simp [*, part_42, var_42]; try omega)).symm, hw⟩))
    · have HE : Hid (validPat p = decide (p.length ≤ 6)) := by
        have e : k = p.length := by omega
        have := HT.out; rw [e] at this
        unfold patUpto at this; unfold Hid validPat; rw [this]; rfl
      go_wp2
      go_ret
      exact ⟨ret_bool (by rw [HE.out]; (rw [Bool.eq_iff_iff]; simp; try omega)), hw⟩
set_option maxHeartbeats 2000000 in
theorem C_impl_ValidPattern (w : World) (cs : List Value) (p : List (List UInt8)) (h : (Ty.sl .str).rd w cs p) :
    Calls Try.prog 190 #[.agg cs.toArray] w (RetB w (validPat p)) := by
  obtain ⟨A, c, rfl⟩ := Ty.rd_slv h
  obtain ⟨_, _, _, _, _, n0⟩ := Ty.rd_sl h
  go_enter Try.func190, Try.ntmps190
  go_wp2
  go_loopw [8] (fun i wr => ∃ k : Nat, k ≤ p.length ∧ i = .int .i64 k ∧ patUpto p k = true ∧ Below (w.alloc (.cells #[.slice A p.length c] 165)).heap.size (w.alloc (.cells #[.slice A p.length c] 165)) wr) (fun i _ => p.length - (intOf i).toNat)
  case atStart => exact ⟨0, by omega, rfl, by rfl, Below.refl _ _⟩
  case round =>
    obtain ⟨k, hk, rfl, ht, hb⟩ := hrel
    have hw : Below w.heap.size w wr := bel_trans (by repeat' (first | (with_reducible exact Below.refl _ _) | (with_reducible assumption) | (with_reducible refine bel_set ?_ (by (try dsimp only); omega) _) | (with_reducible refine bel_alloc ?_ _) | (with_reducible refine bel_drewN ?_ _) | (with_reducible refine bel_drew ?_))) hb
    obtain ⟨hc, hf⟩ := bcell hb
    have HT := Lib.hid ht
    clear ht
    by_cases hlt : k < p.length
    · have HS := Lib.hid (patUpto_succ p hlt)
      have HN := Lib.hid (fun q => validPat_no p hlt q)
      obtain ⟨b, o, ds, rfl, hl, hcell, hrd⟩ := Ty.rd_at (Ty.rd_below hw h) hlt
      obtain ⟨rfl, hsl⟩ := hrd
      have e0 : wr.cell? ⟨b, o + k, none⟩ = some (vS p[k]) := by simpa [Ty.sz] using hcell 0 (by decide)
      clear hcell hl
      have HP := Lib.hid (show patPart p.length k p[k] = (validPart p[k] || decide (p[k] = [42]) || isVar p[k] || (decide (p[k] = [42, 42]) && decide (k + 1 = p.length))) from rfl)
      go_wp2_with fail
      refine (C_impl_ValidPart _ _ hsl).mono ?_
      rintro e w1 ⟨rfl, rfl⟩
      go_wp2_with fail
      all_goals first
        | exact ⟨⟨k + 1, by omega, by go_num, by rw [HS.out, HT.out, HP.out]; simp [*, part_42, var_42]; try omega, hb⟩, by simp [intOf]; omega⟩
        | (refine (C_impl_isVariable _ _ hsl).mono ?_
           rintro e w2 ⟨rfl, rfl⟩
           go_wp2
           all_goals (try simp only [Bool.not_eq_false', beq_iff_eq, Bool.not_eq_true', beq_eq_false_iff_ne, bne_iff_ne, bne_eq_false_iff_eq, ne_eq] at *)
           all_goals (try contradiction)
           all_goals first
             | exact ⟨⟨k + 1, by omega, by go_num, by rw [HS.out, HT.out, HP.out]; simp [*, part_42, var_42]; try omega, hb⟩, by simp [intOf]; omega⟩
             | exact ⟨⟨k + 1, by omega, by go_num, by rw [HS.out, HT.out, HP.out]; simp [*, part_42, var_42]; try omega, hb⟩, by simp [intOf]; omega⟩
             | (go_ret
                exact ⟨ret_bool (HN.out (by rw [HP.out]; simp [*, part_42, var_42]; try omega)).symm, hw⟩)
             | (go_ret
                exact ⟨ret_bool (HN.out (by rw [HP.out]; simp [*, part_42, var_42]; try omega)).symm, hw⟩))
    · have HE : Hid (validPat p = decide (p.length ≤ 6)) := by
        have e : k = p.length := by omega
        have := HT.out; rw [e] at this
        unfold patUpto at this; unfold Hid validPat; rw [this]; rfl
      go_wp2
      go_ret
      exact ⟨ret_bool (by rw [HE.out]; (rw [Bool.eq_iff_iff]; simp; try omega)), hw⟩
end Go.Proofs.Ytldgbnlcnlfmeaa

/- A part of a pattern. -/
namespace Go.Proofs.Ytldgbnlcnlfmeaa
open Go.RowKit
set_option linter.unusedVariables false
set_option linter.unusedSimpArgs false

def eqs (s q : List UInt8) : Bool := decide (q = s)
theorem contains_any (p : List (List UInt8)) (s : List UInt8) : p.contains s = p.any (eqs s) := by
  rw [Bool.eq_iff_iff, List.contains_iff_mem, List.any_eq_true]
  exact ⟨fun h => ⟨s, h, by simp [eqs]⟩, fun ⟨q, h, e⟩ => by simp [eqs] at e; exact e ▸ h⟩
theorem any_hit (f : List UInt8 → Bool) (p : List (List UInt8)) {k : Nat} (h : k < p.length) (hq : f p[k] = true) : p.any f = true :=
  List.any_eq_true.2 ⟨_, List.getElem_mem h, hq⟩
set_option maxHeartbeats 1000000 in
theorem C_spec_l10Has (w : World) (cs : List Value) (p : List (List UInt8)) (s : List UInt8) (h : (Ty.sl .str).rd w cs p) (hs : s.length ≤ 9223372036854775807) :
    Calls Try.prog 182 #[.agg cs.toArray, vS s] w (RetB w (p.any (eqs s))) := by
  obtain ⟨A, c, rfl⟩ := Ty.rd_slv h
  obtain ⟨_, _, _, _, _, n0⟩ := Ty.rd_sl h
  go_enter Try.func182, Try.ntmps182
  go_wp2
  go_loopw [5] (fun i wr => ∃ k : Nat, k ≤ p.length ∧ i = .int .i64 k ∧ (p.take k).any (eqs s) = false ∧ Below (w.alloc (.cells #[.slice A p.length c] 165)).heap.size (w.alloc (.cells #[.slice A p.length c] 165)) wr) (fun i _ => p.length - (intOf i).toNat)
  case atStart => exact ⟨0, by omega, rfl, by first | rfl | simp, Below.refl _ _⟩
  case round =>
    obtain ⟨k, hk, rfl, ht, hb⟩ := hrel
    have hw : Below w.heap.size w wr := bel_trans (by repeat' (first | (with_reducible exact Below.refl _ _) | (with_reducible assumption) | (with_reducible refine bel_set ?_ (by (try dsimp only); omega) _) | (with_reducible refine bel_alloc ?_ _) | (with_reducible refine bel_drewN ?_ _) | (with_reducible refine bel_drew ?_))) hb
    obtain ⟨hc, hf⟩ := bcell hb
    have HT := Lib.hid ht
    clear ht
    by_cases hlt : k < p.length
    · have HS := Lib.hid (any_take_succ (eqs s) p hlt)
      obtain ⟨b, o, ds, rfl, hl, hcell, hrd⟩ := Ty.rd_at (Ty.rd_below hw h) hlt
      obtain ⟨rfl, hsl⟩ := hrd
      have e0 : wr.cell? ⟨b, o + k, none⟩ = some (vS p[k]) := by simpa [Ty.sz] using hcell 0 (by decide)
      clear hcell hl
      by_cases hq : p[k] = s
      · have HQ := Lib.hid (any_hit (eqs s) p hlt (by simp [eqs, hq]))
        have hq2 : (p[k] == s) = true := by simp [hq]
        go_wp2
        go_ret
        exact ⟨ret_bool HQ.out.symm, hw⟩
      · have HQ : Hid (eqs s p[k] = false) := by show _ = _; simp [eqs, hq]
        have hq2 : (p[k] == s) = false := by simp [hq]
        go_wp2
        exact ⟨⟨k + 1, by omega, by go_num, by rw [HS.out, HT.out, HQ.out]; rfl, hb⟩, by simp [intOf]; omega⟩
    · have HE : Hid (p.any (eqs s) = false) := by have := HT.out; rwa [List.take_of_length_le (by omega)] at this
      go_wp2
      go_ret
      exact ⟨ret_bool HE.out.symm, hw⟩
set_option maxHeartbeats 1000000 in
theorem C_Index_str (w : World) (v : Value) (p : List (List UInt8)) (s : List UInt8) (h : (Ty.sl .str).rd w [v] p) (hs : s.length ≤ 9223372036854775807) :
    Calls Try.prog 195 #[v, vS s] w (RetIP w (ixf (eqs s) p)) := by
  obtain ⟨A, c, rfl, _, _, n0⟩ := Ty.rd_sl h
  go_enter Try.func195, Try.ntmps195
  go_wp2
  go_loopw [8] (fun i wr => ∃ k : Nat, k ≤ p.length ∧ i = .int .i64 k ∧ (p.take k).any (eqs s) = false ∧ wr = w) (fun i _ => p.length - (intOf i).toNat)
  case atStart => exact ⟨0, by omega, rfl, by first | rfl | simp, rfl⟩
  case round =>
    obtain ⟨k, hk, rfl, ht, rfl⟩ := hrel
    have HT := Lib.hid ht
    clear ht
    by_cases hlt : k < p.length
    · have HS := Lib.hid (any_take_succ (eqs s) p hlt)
      obtain ⟨b, o, ds, rfl, hl, hcell, hrd⟩ := Ty.rd_at h hlt
      obtain ⟨rfl, hsl⟩ := hrd
      have e0 := hcell 0 (by decide)
      simp [Ty.sz] at e0
      clear hcell hl
      by_cases hq : p[k] = s
      · have HQ := Lib.hid (ixf_hit (eqs s) p hlt HT.out (by simp [eqs, hq]))
        have hq2 : (s == p[k]) = true := by simp [hq]
        go_wp2
        go_ret
        exact ⟨ret_int HQ.out.symm, rfl⟩
      · have HQ : Hid (eqs s p[k] = false) := by show _ = _; simp [eqs, hq]
        have hq2 : (s == p[k]) = false := by simp [Ne.symm hq]
        go_wp2
        exact ⟨⟨k + 1, by omega, by go_num, by rw [HS.out, HT.out, HQ.out]; rfl, by first | rfl | trivial⟩, by simp [intOf]; omega⟩
    · have HE : Hid (p.any (eqs s) = false) := by have := HT.out; rwa [List.take_of_length_le (by omega)] at this
      go_wp2
      go_ret
      exact ⟨ret_int (ixf_miss (eqs s) p HE.out).symm, rfl⟩
end Go.Proofs.Ytldgbnlcnlfmeaa

/- Rules are right. -/
namespace Go.Proofs.Ytldgbnlcnlfmeaa
open Go.RowKit
set_option linter.unusedVariables false
set_option linter.unusedSimpArgs false

theorem ixf_sign (f : List UInt8 → Bool) (p : List (List UInt8)) : decide (0 ≤ ixf f p) = p.any f := by
  rcases find_ixf f p with ⟨hi, hf⟩ | ⟨k, hk, hi, hf⟩
  · rw [hi]
    cases h : p.any f
    · rfl
    · obtain ⟨q, hq, he⟩ := List.any_eq_true.1 h
      exact absurd he (by have := List.find?_eq_none.1 hf q hq; simpa using this)
  · rw [hi]
    have h1 := List.find?_some hf
    rw [List.any_eq_true.2 ⟨_, List.mem_of_find?_eq_some hf, h1⟩]
    simp
set_option maxHeartbeats 1000000 in
theorem C_Contains_str (w : World) (v : Value) (p : List (List UInt8)) (s : List UInt8) (h : (Ty.sl .str).rd w [v] p) (hs : s.length ≤ 9223372036854775807) :
    Calls Try.prog 194 #[v, vS s] w (RetBP w (p.any (eqs s))) := by
  have HI := Lib.hid (ixf_sign (eqs s) p)
  go_enter Try.func194, Try.ntmps194
  go_wp2_with fail
  refine (C_Index_str _ _ p s h hs).mono ?_
  rintro e w1 ⟨rfl, rfl⟩
  go_wp2
  go_ret
  exact ⟨ret_bool HI.out, rfl⟩
def vrP (a : List (List UInt8)) (s : List UInt8) : Bool := !isVar s || a.any (eqs s)
theorem validRule_eq (x : tRule.D) : validRule x = (validPat x.1 && validPat x.2 && List.all x.2 (vrP x.1)) := by
  unfold validRule
  congr 2
  funext s; unfold vrP; rw [contains_any]
set_option maxHeartbeats 2000000 in
theorem C_impl_ValidRule (w : World) (cs : List Value) (x : tRule.D) (h : tRule.rd w cs x) (s0 : Ty.bulk tRule x ≤ 1048576) :
    Calls Try.prog 188 #[.agg cs.toArray] w (RetB w (validRule x)) := by
  obtain ⟨A0, c0, A1, c1, rfl, g0, g1⟩ := rd_Rule h
  obtain ⟨_, _, _, _, _, n1⟩ := Ty.rd_sl g1
  have HF := Lib.hid (validRule_eq x)
  go_enter Try.func188, Try.ntmps188
  go_wp2_with fail
  refine (C_impl_ValidPattern _ _ _ (Ty.rd_below (by repeat' (first | (with_reducible exact Below.refl _ _) | (with_reducible assumption) | (with_reducible refine bel_set ?_ (by (try dsimp only); omega) _) | (with_reducible refine bel_alloc ?_ _) | (with_reducible refine bel_drewN ?_ _) | (with_reducible refine bel_drew ?_))) g0)).mono ?_
  rintro e w1 ⟨rfl, hb1⟩
  obtain ⟨hc1, hf1⟩ := bcell hb1
  have z1 : w.heap.size < w1.heap.size := by have := hb1.size; simp only [World.size_alloc] at this; omega
  cases q0 : validPat x.1
  · rw [q0] at HF
    go_wp2
    go_ret
    exact ⟨ret_bool (by rw [HF.out]; rfl), bel_trans (by repeat' (first | (with_reducible exact Below.refl _ _) | (with_reducible assumption) | (with_reducible refine bel_set ?_ (by (try dsimp only); omega) _) | (with_reducible refine bel_alloc ?_ _) | (with_reducible refine bel_drewN ?_ _) | (with_reducible refine bel_drew ?_))) hb1⟩
  rw [q0] at HF
  go_wp2_with fail
  have hw1 : Below w.heap.size w w1 := bel_trans (by repeat' (first | (with_reducible exact Below.refl _ _) | (with_reducible assumption) | (with_reducible refine bel_set ?_ (by (try dsimp only); omega) _) | (with_reducible refine bel_alloc ?_ _) | (with_reducible refine bel_drewN ?_ _) | (with_reducible refine bel_drew ?_))) hb1
  refine (C_impl_ValidPattern _ _ _ (Ty.rd_below hw1 g1)).mono ?_
  rintro e w2 ⟨rfl, hb2⟩
  have hv2 : Below (w.alloc (.cells #[.slice A0 (List.length x.1) c0, .slice A1 (List.length x.2) c1] 167)).heap.size (w.alloc (.cells #[.slice A0 (List.length x.1) c0, .slice A1 (List.length x.2) c1] 167)) w2 := bel_trans hb1 hb2
  clear hb2 hc1 hf1 hb1 z1 hw1
  obtain ⟨hc2, hf2⟩ := bcell hv2
  have z2 : w.heap.size < w2.heap.size := by have := hv2.size; simp only [World.size_alloc] at this; omega
  cases q1 : validPat x.2
  · rw [q1] at HF
    go_wp2
    go_ret
    exact ⟨ret_bool (by rw [HF.out]; rfl), bel_trans (by repeat' (first | (with_reducible exact Below.refl _ _) | (with_reducible assumption) | (with_reducible refine bel_set ?_ (by (try dsimp only); omega) _) | (with_reducible refine bel_alloc ?_ _) | (with_reducible refine bel_drewN ?_ _) | (with_reducible refine bel_drew ?_))) hv2⟩
  rw [q1] at HF
  go_wp2
  go_loopw [19] (fun i wr => ∃ k : Nat, k ≤ x.2.length ∧ i = .int .i64 k ∧ (List.take k x.2).all (vrP x.1) = true ∧ Below (w.alloc (.cells #[.slice A0 (List.length x.1) c0, .slice A1 (List.length x.2) c1] 167)).heap.size (w.alloc (.cells #[.slice A0 (List.length x.1) c0, .slice A1 (List.length x.2) c1] 167)) wr) (fun i _ => x.2.length - (intOf i).toNat)
  case atStart => exact ⟨0, by omega, rfl, by first | rfl | simp, hv2⟩
  case round =>
    obtain ⟨k, hk, rfl, ht, hb⟩ := hrel
    have hw : Below w.heap.size w wr := bel_trans (by repeat' (first | (with_reducible exact Below.refl _ _) | (with_reducible assumption) | (with_reducible refine bel_set ?_ (by (try dsimp only); omega) _) | (with_reducible refine bel_alloc ?_ _) | (with_reducible refine bel_drewN ?_ _) | (with_reducible refine bel_drew ?_))) hb
    obtain ⟨hc, hf⟩ := bcell hb
    have z3 : w.heap.size < wr.heap.size := by have := hb.size; simp only [World.size_alloc] at this; omega
    have HT := Lib.hid ht
    clear ht
    by_cases hlt : k < x.2.length
    · have HS := Lib.hid (all_take_succ (vrP x.1) x.2 hlt)
      have HN := Lib.hid (fun q => all_false_of (vrP x.1) x.2 hlt q)
      obtain ⟨b, o, ds, rfl, hl, hcell, hrd⟩ := Ty.rd_at (Ty.rd_below hw g1) hlt
      obtain ⟨rfl, hsl⟩ := hrd
      have e0 : wr.cell? ⟨b, o + k, none⟩ = some (vS x.2[k]) := by simpa [Ty.sz] using hcell 0 (by decide)
      have HP := Lib.hid (show vrP x.1 x.2[k] = (!isVar x.2[k] || x.1.any (eqs x.2[k])) from rfl)
      clear hcell hl
      go_wp2_with fail
      refine (C_impl_isVariable _ _ hsl).mono ?_
      rintro e w3 ⟨rfl, rfl⟩
      cases q3 : isVar x.2[k]
      · rw [q3] at HP
        go_wp2
        exact ⟨⟨k + 1, by omega, by go_num, by rw [HS.out, HT.out, HP.out]; rfl, hb⟩, by simp [intOf]; omega⟩
      · rw [q3] at HP
        go_wp2_with fail
        refine (C_Contains_str _ _ x.1 _ (Ty.rd_below hw g0) hsl).mono ?_
        rintro e w4 ⟨rfl, rfl⟩
        cases q4 : x.1.any (eqs x.2[k])
        · rw [q4] at HP
          go_wp2
          go_ret
          exact ⟨ret_bool (by rw [HF.out, HN.out HP.out]; rfl), hw⟩
        · rw [q4] at HP
          go_wp2
          exact ⟨⟨k + 1, by omega, by go_num, by rw [HS.out, HT.out, HP.out]; rfl, hb⟩, by simp [intOf]; omega⟩
    · have HE : Hid (List.all x.2 (vrP x.1) = true) := by have := HT.out; rwa [List.take_of_length_le (by omega)] at this
      go_wp2
      go_ret
      exact ⟨ret_bool (by rw [HF.out, HE.out]; rfl), hw⟩
end Go.Proofs.Ytldgbnlcnlfmeaa

/- IndexFunc, ContainsFunc over slices of structs. Printed by gen13.py. -/
namespace Go.Proofs.Ytldgbnlcnlfmeaa
open Go.RowKit
set_option linter.unusedVariables false
set_option linter.unusedSimpArgs false

abbrev tBinding : Ty := .pr .str .str
theorem rd_Binding {w : World} {cs : List Value} {x : tBinding.D} (h : tBinding.rd w cs x) : cs = [vS x.1, vS x.2] ∧ x.1.length ≤ 9223372036854775807 ∧ x.2.length ≤ 9223372036854775807 := by
  obtain ⟨c1, c2, rfl, ⟨rfl, h1⟩, ⟨rfl, h2⟩⟩ := h
  exact ⟨rfl, h1, h2⟩
theorem rd_Binding_mk {w : World} {x : tBinding.D} (h1 : x.1.length ≤ 9223372036854775807) (h2 : x.2.length ≤ 9223372036854775807) : tBinding.rd w [vS x.1, vS x.2] x := ⟨[_], [_], rfl, ⟨rfl, h1⟩, ⟨rfl, h2⟩⟩
set_option maxHeartbeats 1000000 in
theorem C_IndexFunc_Name (w : World) (v : Value) (x : List (Ty.D (.sl .str))) (p : Ty.D (.sl .str) → Bool) (g : Nat) (lb : Array Value) (eg : ∀ args w, (callFunc g args).run Try.prog w = .ok (.enter g args) w)
    (h : (Ty.sl (.sl .str)).rd w [v] x) (hp : ∀ (W : World) (ds : List Value) (d : Ty.D (.sl .str)), d ∈ x → Ty.rd W (.sl .str) ds d → Below w.heap.size w W → Calls Try.prog g (#[.agg ds.toArray] ++ lb) W (RetB W (p d))) :
    Calls Try.prog 151 #[v, .func (.func g) #[] lb] w (RetI w (ixf p x)) := by
  obtain ⟨A, c, rfl, hc, hm, hn⟩ := Ty.rd_sl h
  have HP := Lib.hid hp
  clear hp
  go_enter Try.func151, Try.ntmps151
  go_wp2
  go_loopw [8] (fun i wr => ∃ k : Nat, k ≤ x.length ∧ i = .int .i64 k ∧ (x.take k).any p = false ∧ Below w.heap.size w wr) (fun i _ => x.length - (intOf i).toNat)
  case atStart => exact ⟨0, by omega, by first | rfl | simp, by first | rfl | simp, Below.refl _ _⟩
  case round =>
    obtain ⟨k, hk, rfl, ht, hb⟩ := hrel
    have HT := Lib.hid ht
    clear ht
    by_cases hlt : k < x.length
    · have HS := Lib.hid (any_take_succ p x hlt)
      obtain ⟨b, o, ds, rfl, hl, hcell, hrd⟩ := Ty.rd_at (Ty.rd_below hb h) hlt
      have hcall := HP.out wr ds x[k] (List.getElem_mem hlt) hrd hb
      obtain ⟨Aa0, ca0, rfl⟩ := Ty.rd_slv hrd
      have e0 : wr.cell? ⟨b, o + k, none⟩ = some (.slice Aa0 (List.length x[k]) ca0) := by simpa [Ty.sz] using hcell 0 (by decide)
      clear hcell hl
      cases hq : p x[k]
      · have HQ := Lib.hid hq
        rw [hq] at hcall
        go_wp2_with (go_at_fn g; refine hcall.mono ?_; rintro e w' ⟨rfl, hb'⟩)
        go_roundw
        case rel => exact ⟨k + 1, by omega, by go_num, by rw [HS.out, HT.out, HQ.out]; rfl, bel_trans hb hb'⟩
        case measure => simp [intOf]; omega
      · have HQ := Lib.hid hq
        rw [hq] at hcall
        go_wp2_with (go_at_fn g; refine hcall.mono ?_; rintro e w' ⟨rfl, hb'⟩)
        go_ret
        exact ⟨ret_int (ixf_hit p x hlt HT.out HQ.out).symm, bel_trans hb hb'⟩
    · have HE : Hid (x.any p = false) := by have := HT.out; rwa [List.take_of_length_le (by omega)] at this
      go_wp2
      go_ret
      exact ⟨ret_int (ixf_miss p x HE.out).symm, hb⟩
set_option maxHeartbeats 1000000 in
theorem C_ContainsFunc_Name (w : World) (v : Value) (x : List (Ty.D (.sl .str))) (p : Ty.D (.sl .str) → Bool) (g : Nat) (lb : Array Value) (eg : ∀ args w, (callFunc g args).run Try.prog w = .ok (.enter g args) w)
    (h : (Ty.sl (.sl .str)).rd w [v] x) (hp : ∀ (W : World) (ds : List Value) (d : Ty.D (.sl .str)), d ∈ x → Ty.rd W (.sl .str) ds d → Below w.heap.size w W → Calls Try.prog g (#[.agg ds.toArray] ++ lb) W (RetB W (p d))) :
    Calls Try.prog 83 #[v, .func (.func g) #[] lb] w (RetB w (x.any p)) := by
  have hcall := C_IndexFunc_Name w v x p g lb eg h hp
  go_enter Try.func83, Try.ntmps83
  go_wp2_with fail
  refine hcall.mono ?_
  rintro e w1 ⟨rfl, hb⟩
  go_wp2
  go_ret
  exact ⟨ret_bool (ixf_ge p x), hb⟩
set_option maxHeartbeats 1000000 in
theorem C_IndexFunc_Rule (w : World) (v : Value) (x : List (Ty.D tRule)) (p : Ty.D tRule → Bool) (g : Nat) (lb : Array Value) (eg : ∀ args w, (callFunc g args).run Try.prog w = .ok (.enter g args) w)
    (h : (Ty.sl tRule).rd w [v] x) (hp : ∀ (W : World) (ds : List Value) (d : Ty.D tRule), d ∈ x → Ty.rd W tRule ds d → Below w.heap.size w W → Calls Try.prog g (#[.agg ds.toArray] ++ lb) W (RetB W (p d))) :
    Calls Try.prog 184 #[v, .func (.func g) #[] lb] w (RetI w (ixf p x)) := by
  obtain ⟨A, c, rfl, hc, hm, hn⟩ := Ty.rd_sl h
  have HP := Lib.hid hp
  clear hp
  go_enter Try.func184, Try.ntmps184
  go_wp2
  go_loopw [8] (fun i wr => ∃ k : Nat, k ≤ x.length ∧ i = .int .i64 k ∧ (x.take k).any p = false ∧ Below w.heap.size w wr) (fun i _ => x.length - (intOf i).toNat)
  case atStart => exact ⟨0, by omega, by first | rfl | simp, by first | rfl | simp, Below.refl _ _⟩
  case round =>
    obtain ⟨k, hk, rfl, ht, hb⟩ := hrel
    have HT := Lib.hid ht
    clear ht
    by_cases hlt : k < x.length
    · have HS := Lib.hid (any_take_succ p x hlt)
      obtain ⟨b, o, ds, rfl, hl, hcell, hrd⟩ := Ty.rd_at (Ty.rd_below hb h) hlt
      have hcall := HP.out wr ds x[k] (List.getElem_mem hlt) hrd hb
      obtain ⟨Aa0, ca0, Aa1, ca1, rfl, sag0, sag1⟩ := rd_Rule hrd
      have e0 : wr.cell? ⟨b, o + k * 2, none⟩ = some (.slice Aa0 (List.length x[k].1) ca0) := by simpa [Ty.sz] using hcell 0 (by decide)
      have e1 : wr.cell? ⟨b, o + k * 2 + 1, none⟩ = some (.slice Aa1 (List.length x[k].2) ca1) := by simpa [Ty.sz] using hcell 1 (by decide)
      clear hcell hl
      cases hq : p x[k]
      · have HQ := Lib.hid hq
        rw [hq] at hcall
        go_wp2_with (go_at_fn g; refine hcall.mono ?_; rintro e w' ⟨rfl, hb'⟩)
        go_roundw
        case rel => exact ⟨k + 1, by omega, by go_num, by rw [HS.out, HT.out, HQ.out]; rfl, bel_trans hb hb'⟩
        case measure => simp [intOf]; omega
      · have HQ := Lib.hid hq
        rw [hq] at hcall
        go_wp2_with (go_at_fn g; refine hcall.mono ?_; rintro e w' ⟨rfl, hb'⟩)
        go_ret
        exact ⟨ret_int (ixf_hit p x hlt HT.out HQ.out).symm, bel_trans hb hb'⟩
    · have HE : Hid (x.any p = false) := by have := HT.out; rwa [List.take_of_length_le (by omega)] at this
      go_wp2
      go_ret
      exact ⟨ret_int (ixf_miss p x HE.out).symm, hb⟩
set_option maxHeartbeats 1000000 in
theorem C_IndexFunc_Data (w : World) (v : Value) (x : List (Ty.D tData)) (p : Ty.D tData → Bool) (g : Nat) (lb : Array Value) (eg : ∀ args w, (callFunc g args).run Try.prog w = .ok (.enter g args) w)
    (h : (Ty.sl tData).rd w [v] x) (hp : ∀ (W : World) (ds : List Value) (d : Ty.D tData), d ∈ x → Ty.rd W tData ds d → Below w.heap.size w W → Calls Try.prog g (#[.agg ds.toArray] ++ lb) W (RetB W (p d))) :
    Calls Try.prog 86 #[v, .func (.func g) #[] lb] w (RetI w (ixf p x)) := by
  obtain ⟨A, c, rfl, hc, hm, hn⟩ := Ty.rd_sl h
  have HP := Lib.hid hp
  clear hp
  go_enter Try.func86, Try.ntmps86
  go_wp2
  go_loopw [8] (fun i wr => ∃ k : Nat, k ≤ x.length ∧ i = .int .i64 k ∧ (x.take k).any p = false ∧ Below w.heap.size w wr) (fun i _ => x.length - (intOf i).toNat)
  case atStart => exact ⟨0, by omega, by first | rfl | simp, by first | rfl | simp, Below.refl _ _⟩
  case round =>
    obtain ⟨k, hk, rfl, ht, hb⟩ := hrel
    have HT := Lib.hid ht
    clear ht
    by_cases hlt : k < x.length
    · have HS := Lib.hid (any_take_succ p x hlt)
      obtain ⟨b, o, ds, rfl, hl, hcell, hrd⟩ := Ty.rd_at (Ty.rd_below hb h) hlt
      have hcall := HP.out wr ds x[k] (List.getElem_mem hlt) hrd hb
      obtain ⟨Aa0, ca0, Aa1, ca1, Aa2, ca2, rfl, sag0, sag1, sag2, sag3, sag4⟩ := rd_Data hrd
      have e0 : wr.cell? ⟨b, o + k * 5, none⟩ = some (.slice Aa0 (List.length x[k].1) ca0) := by simpa [Ty.sz] using hcell 0 (by decide)
      have e1 : wr.cell? ⟨b, o + k * 5 + 1, none⟩ = some (.slice Aa1 (List.length x[k].2.1) ca1) := by simpa [Ty.sz] using hcell 1 (by decide)
      have e2 : wr.cell? ⟨b, o + k * 5 + 2, none⟩ = some (.slice Aa2 (List.length x[k].2.2.1) ca2) := by simpa [Ty.sz] using hcell 2 (by decide)
      have e3 : wr.cell? ⟨b, o + k * 5 + 3, none⟩ = some (.int .i64 x[k].2.2.2.1) := by simpa [Ty.sz] using hcell 3 (by decide)
      have e4 : wr.cell? ⟨b, o + k * 5 + 4, none⟩ = some (.int .i64 x[k].2.2.2.2) := by simpa [Ty.sz] using hcell 4 (by decide)
      clear hcell hl
      cases hq : p x[k]
      · have HQ := Lib.hid hq
        rw [hq] at hcall
        go_wp2_with (go_at_fn g; refine hcall.mono ?_; rintro e w' ⟨rfl, hb'⟩)
        go_roundw
        case rel => exact ⟨k + 1, by omega, by go_num, by rw [HS.out, HT.out, HQ.out]; rfl, bel_trans hb hb'⟩
        case measure => simp [intOf]; omega
      · have HQ := Lib.hid hq
        rw [hq] at hcall
        go_wp2_with (go_at_fn g; refine hcall.mono ?_; rintro e w' ⟨rfl, hb'⟩)
        go_ret
        exact ⟨ret_int (ixf_hit p x hlt HT.out HQ.out).symm, bel_trans hb hb'⟩
    · have HE : Hid (x.any p = false) := by have := HT.out; rwa [List.take_of_length_le (by omega)] at this
      go_wp2
      go_ret
      exact ⟨ret_int (ixf_miss p x HE.out).symm, hb⟩
set_option maxHeartbeats 1000000 in
theorem C_IndexFunc_CacheEntry (w : World) (v : Value) (x : List (Ty.D tCacheEntry)) (p : Ty.D tCacheEntry → Bool) (g : Nat) (lb : Array Value) (eg : ∀ args w, (callFunc g args).run Try.prog w = .ok (.enter g args) w)
    (h : (Ty.sl tCacheEntry).rd w [v] x) (hp : ∀ (W : World) (ds : List Value) (d : Ty.D tCacheEntry), d ∈ x → Ty.rd W tCacheEntry ds d → Below w.heap.size w W → Calls Try.prog g (#[.agg ds.toArray] ++ lb) W (RetB W (p d))) :
    Calls Try.prog 159 #[v, .func (.func g) #[] lb] w (RetI w (ixf p x)) := by
  obtain ⟨A, c, rfl, hc, hm, hn⟩ := Ty.rd_sl h
  have HP := Lib.hid hp
  clear hp
  go_enter Try.func159, Try.ntmps159
  go_wp2
  go_loopw [8] (fun i wr => ∃ k : Nat, k ≤ x.length ∧ i = .int .i64 k ∧ (x.take k).any p = false ∧ Below w.heap.size w wr) (fun i _ => x.length - (intOf i).toNat)
  case atStart => exact ⟨0, by omega, by first | rfl | simp, by first | rfl | simp, Below.refl _ _⟩
  case round =>
    obtain ⟨k, hk, rfl, ht, hb⟩ := hrel
    have HT := Lib.hid ht
    clear ht
    by_cases hlt : k < x.length
    · have HS := Lib.hid (any_take_succ p x hlt)
      obtain ⟨b, o, ds, rfl, hl, hcell, hrd⟩ := Ty.rd_at (Ty.rd_below hb h) hlt
      have hcall := HP.out wr ds x[k] (List.getElem_mem hlt) hrd hb
      obtain ⟨Aa00, ca00, Aa01, ca01, Aa02, ca02, rfl, sag0, sag1⟩ := rd_CacheEntry hrd
      have e0 : wr.cell? ⟨b, o + k * 6, none⟩ = some (.slice Aa00 (List.length x[k].1.1) ca00) := by simpa [Ty.sz] using hcell 0 (by decide)
      have e1 : wr.cell? ⟨b, o + k * 6 + 1, none⟩ = some (.slice Aa01 (List.length x[k].1.2.1) ca01) := by simpa [Ty.sz] using hcell 1 (by decide)
      have e2 : wr.cell? ⟨b, o + k * 6 + 2, none⟩ = some (.slice Aa02 (List.length x[k].1.2.2.1) ca02) := by simpa [Ty.sz] using hcell 2 (by decide)
      have e3 : wr.cell? ⟨b, o + k * 6 + 3, none⟩ = some (.int .i64 x[k].1.2.2.2.1) := by simpa [Ty.sz] using hcell 3 (by decide)
      have e4 : wr.cell? ⟨b, o + k * 6 + 4, none⟩ = some (.int .i64 x[k].1.2.2.2.2) := by simpa [Ty.sz] using hcell 4 (by decide)
      have e5 : wr.cell? ⟨b, o + k * 6 + 5, none⟩ = some (.int .i64 x[k].2) := by simpa [Ty.sz] using hcell 5 (by decide)
      clear hcell hl
      cases hq : p x[k]
      · have HQ := Lib.hid hq
        rw [hq] at hcall
        go_wp2_with (go_at_fn g; refine hcall.mono ?_; rintro e w' ⟨rfl, hb'⟩)
        go_roundw
        case rel => exact ⟨k + 1, by omega, by go_num, by rw [HS.out, HT.out, HQ.out]; rfl, bel_trans hb hb'⟩
        case measure => simp [intOf]; omega
      · have HQ := Lib.hid hq
        rw [hq] at hcall
        go_wp2_with (go_at_fn g; refine hcall.mono ?_; rintro e w' ⟨rfl, hb'⟩)
        go_ret
        exact ⟨ret_int (ixf_hit p x hlt HT.out HQ.out).symm, bel_trans hb hb'⟩
    · have HE : Hid (x.any p = false) := by have := HT.out; rwa [List.take_of_length_le (by omega)] at this
      go_wp2
      go_ret
      exact ⟨ret_int (ixf_miss p x HE.out).symm, hb⟩
set_option maxHeartbeats 1000000 in
theorem C_ContainsFunc_CacheEntry (w : World) (v : Value) (x : List (Ty.D tCacheEntry)) (p : Ty.D tCacheEntry → Bool) (g : Nat) (lb : Array Value) (eg : ∀ args w, (callFunc g args).run Try.prog w = .ok (.enter g args) w)
    (h : (Ty.sl tCacheEntry).rd w [v] x) (hp : ∀ (W : World) (ds : List Value) (d : Ty.D tCacheEntry), d ∈ x → Ty.rd W tCacheEntry ds d → Below w.heap.size w W → Calls Try.prog g (#[.agg ds.toArray] ++ lb) W (RetB W (p d))) :
    Calls Try.prog 111 #[v, .func (.func g) #[] lb] w (RetB w (x.any p)) := by
  have hcall := C_IndexFunc_CacheEntry w v x p g lb eg h hp
  go_enter Try.func111, Try.ntmps111
  go_wp2_with fail
  refine hcall.mono ?_
  rintro e w1 ⟨rfl, hb⟩
  go_wp2
  go_ret
  exact ⟨ret_bool (ixf_ge p x), hb⟩
set_option maxHeartbeats 1000000 in
theorem C_IndexFunc_SeenNonce (w : World) (v : Value) (x : List (Ty.D tSeenNonce)) (p : Ty.D tSeenNonce → Bool) (g : Nat) (lb : Array Value) (eg : ∀ args w, (callFunc g args).run Try.prog w = .ok (.enter g args) w)
    (h : (Ty.sl tSeenNonce).rd w [v] x) (hp : ∀ (W : World) (ds : List Value) (d : Ty.D tSeenNonce), d ∈ x → Ty.rd W tSeenNonce ds d → Below w.heap.size w W → Calls Try.prog g (#[.agg ds.toArray] ++ lb) W (RetB W (p d))) :
    Calls Try.prog 145 #[v, .func (.func g) #[] lb] w (RetI w (ixf p x)) := by
  obtain ⟨A, c, rfl, hc, hm, hn⟩ := Ty.rd_sl h
  have HP := Lib.hid hp
  clear hp
  go_enter Try.func145, Try.ntmps145
  go_wp2
  go_loopw [8] (fun i wr => ∃ k : Nat, k ≤ x.length ∧ i = .int .i64 k ∧ (x.take k).any p = false ∧ Below w.heap.size w wr) (fun i _ => x.length - (intOf i).toNat)
  case atStart => exact ⟨0, by omega, by first | rfl | simp, by first | rfl | simp, Below.refl _ _⟩
  case round =>
    obtain ⟨k, hk, rfl, ht, hb⟩ := hrel
    have HT := Lib.hid ht
    clear ht
    by_cases hlt : k < x.length
    · have HS := Lib.hid (any_take_succ p x hlt)
      obtain ⟨b, o, ds, rfl, hl, hcell, hrd⟩ := Ty.rd_at (Ty.rd_below hb h) hlt
      have hcall := HP.out wr ds x[k] (List.getElem_mem hlt) hrd hb
      obtain ⟨Aa0, ca0, rfl, sag0, sag1⟩ := rd_SeenNonce hrd
      have e0 : wr.cell? ⟨b, o + k * 2, none⟩ = some (.slice Aa0 (List.length x[k].1) ca0) := by simpa [Ty.sz] using hcell 0 (by decide)
      have e1 : wr.cell? ⟨b, o + k * 2 + 1, none⟩ = some (.int .i64 x[k].2) := by simpa [Ty.sz] using hcell 1 (by decide)
      clear hcell hl
      cases hq : p x[k]
      · have HQ := Lib.hid hq
        rw [hq] at hcall
        go_wp2_with (go_at_fn g; refine hcall.mono ?_; rintro e w' ⟨rfl, hb'⟩)
        go_roundw
        case rel => exact ⟨k + 1, by omega, by go_num, by rw [HS.out, HT.out, HQ.out]; rfl, bel_trans hb hb'⟩
        case measure => simp [intOf]; omega
      · have HQ := Lib.hid hq
        rw [hq] at hcall
        go_wp2_with (go_at_fn g; refine hcall.mono ?_; rintro e w' ⟨rfl, hb'⟩)
        go_ret
        exact ⟨ret_int (ixf_hit p x hlt HT.out HQ.out).symm, bel_trans hb hb'⟩
    · have HE : Hid (x.any p = false) := by have := HT.out; rwa [List.take_of_length_le (by omega)] at this
      go_wp2
      go_ret
      exact ⟨ret_int (ixf_miss p x HE.out).symm, hb⟩
set_option maxHeartbeats 1000000 in
theorem C_ContainsFunc_SeenNonce (w : World) (v : Value) (x : List (Ty.D tSeenNonce)) (p : Ty.D tSeenNonce → Bool) (g : Nat) (lb : Array Value) (eg : ∀ args w, (callFunc g args).run Try.prog w = .ok (.enter g args) w)
    (h : (Ty.sl tSeenNonce).rd w [v] x) (hp : ∀ (W : World) (ds : List Value) (d : Ty.D tSeenNonce), d ∈ x → Ty.rd W tSeenNonce ds d → Below w.heap.size w W → Calls Try.prog g (#[.agg ds.toArray] ++ lb) W (RetB W (p d))) :
    Calls Try.prog 77 #[v, .func (.func g) #[] lb] w (RetB w (x.any p)) := by
  have hcall := C_IndexFunc_SeenNonce w v x p g lb eg h hp
  go_enter Try.func77, Try.ntmps77
  go_wp2_with fail
  refine hcall.mono ?_
  rintro e w1 ⟨rfl, hb⟩
  go_wp2
  go_ret
  exact ⟨ret_bool (ixf_ge p x), hb⟩
set_option maxHeartbeats 1000000 in
theorem C_IndexFunc_Requester (w : World) (v : Value) (x : List (Ty.D tRequester)) (p : Ty.D tRequester → Bool) (g : Nat) (lb : Array Value) (eg : ∀ args w, (callFunc g args).run Try.prog w = .ok (.enter g args) w)
    (h : (Ty.sl tRequester).rd w [v] x) (hp : ∀ (W : World) (ds : List Value) (d : Ty.D tRequester), d ∈ x → Ty.rd W tRequester ds d → Below w.heap.size w W → Calls Try.prog g (#[.agg ds.toArray] ++ lb) W (RetB W (p d))) :
    Calls Try.prog 144 #[v, .func (.func g) #[] lb] w (RetI w (ixf p x)) := by
  obtain ⟨A, c, rfl, hc, hm, hn⟩ := Ty.rd_sl h
  have HP := Lib.hid hp
  clear hp
  go_enter Try.func144, Try.ntmps144
  go_wp2
  go_loopw [8] (fun i wr => ∃ k : Nat, k ≤ x.length ∧ i = .int .i64 k ∧ (x.take k).any p = false ∧ Below w.heap.size w wr) (fun i _ => x.length - (intOf i).toNat)
  case atStart => exact ⟨0, by omega, by first | rfl | simp, by first | rfl | simp, Below.refl _ _⟩
  case round =>
    obtain ⟨k, hk, rfl, ht, hb⟩ := hrel
    have HT := Lib.hid ht
    clear ht
    by_cases hlt : k < x.length
    · have HS := Lib.hid (any_take_succ p x hlt)
      obtain ⟨b, o, ds, rfl, hl, hcell, hrd⟩ := Ty.rd_at (Ty.rd_below hb h) hlt
      have hcall := HP.out wr ds x[k] (List.getElem_mem hlt) hrd hb
      obtain ⟨rfl, sag0, sag1, sag2⟩ := rd_Requester hrd
      have e0 : wr.cell? ⟨b, o + k * 3, none⟩ = some (.int .i64 x[k].1) := by simpa [Ty.sz] using hcell 0 (by decide)
      have e1 : wr.cell? ⟨b, o + k * 3 + 1, none⟩ = some (.int .i64 x[k].2.1) := by simpa [Ty.sz] using hcell 1 (by decide)
      have e2 : wr.cell? ⟨b, o + k * 3 + 2, none⟩ = some (.int .i64 x[k].2.2) := by simpa [Ty.sz] using hcell 2 (by decide)
      clear hcell hl
      cases hq : p x[k]
      · have HQ := Lib.hid hq
        rw [hq] at hcall
        go_wp2_with (go_at_fn g; refine hcall.mono ?_; rintro e w' ⟨rfl, hb'⟩)
        go_roundw
        case rel => exact ⟨k + 1, by omega, by go_num, by rw [HS.out, HT.out, HQ.out]; rfl, bel_trans hb hb'⟩
        case measure => simp [intOf]; omega
      · have HQ := Lib.hid hq
        rw [hq] at hcall
        go_wp2_with (go_at_fn g; refine hcall.mono ?_; rintro e w' ⟨rfl, hb'⟩)
        go_ret
        exact ⟨ret_int (ixf_hit p x hlt HT.out HQ.out).symm, bel_trans hb hb'⟩
    · have HE : Hid (x.any p = false) := by have := HT.out; rwa [List.take_of_length_le (by omega)] at this
      go_wp2
      go_ret
      exact ⟨ret_int (ixf_miss p x HE.out).symm, hb⟩
set_option maxHeartbeats 1000000 in
theorem C_ContainsFunc_Requester (w : World) (v : Value) (x : List (Ty.D tRequester)) (p : Ty.D tRequester → Bool) (g : Nat) (lb : Array Value) (eg : ∀ args w, (callFunc g args).run Try.prog w = .ok (.enter g args) w)
    (h : (Ty.sl tRequester).rd w [v] x) (hp : ∀ (W : World) (ds : List Value) (d : Ty.D tRequester), d ∈ x → Ty.rd W tRequester ds d → Below w.heap.size w W → Calls Try.prog g (#[.agg ds.toArray] ++ lb) W (RetB W (p d))) :
    Calls Try.prog 75 #[v, .func (.func g) #[] lb] w (RetB w (x.any p)) := by
  have hcall := C_IndexFunc_Requester w v x p g lb eg h hp
  go_enter Try.func75, Try.ntmps75
  go_wp2_with fail
  refine hcall.mono ?_
  rintro e w1 ⟨rfl, hb⟩
  go_wp2
  go_ret
  exact ⟨ret_bool (ixf_ge p x), hb⟩
set_option maxHeartbeats 1000000 in
theorem C_IndexFunc_Binding (w : World) (v : Value) (x : List (Ty.D tBinding)) (p : Ty.D tBinding → Bool) (g : Nat) (lb : Array Value) (eg : ∀ args w, (callFunc g args).run Try.prog w = .ok (.enter g args) w)
    (h : (Ty.sl tBinding).rd w [v] x) (hp : ∀ (W : World) (ds : List Value) (d : Ty.D tBinding), d ∈ x → Ty.rd W tBinding ds d → Below w.heap.size w W → Calls Try.prog g (#[.agg ds.toArray] ++ lb) W (RetB W (p d))) :
    Calls Try.prog 191 #[v, .func (.func g) #[] lb] w (RetI w (ixf p x)) := by
  obtain ⟨A, c, rfl, hc, hm, hn⟩ := Ty.rd_sl h
  have HP := Lib.hid hp
  clear hp
  go_enter Try.func191, Try.ntmps191
  go_wp2
  go_loopw [8] (fun i wr => ∃ k : Nat, k ≤ x.length ∧ i = .int .i64 k ∧ (x.take k).any p = false ∧ Below w.heap.size w wr) (fun i _ => x.length - (intOf i).toNat)
  case atStart => exact ⟨0, by omega, by first | rfl | simp, by first | rfl | simp, Below.refl _ _⟩
  case round =>
    obtain ⟨k, hk, rfl, ht, hb⟩ := hrel
    have HT := Lib.hid ht
    clear ht
    by_cases hlt : k < x.length
    · have HS := Lib.hid (any_take_succ p x hlt)
      obtain ⟨b, o, ds, rfl, hl, hcell, hrd⟩ := Ty.rd_at (Ty.rd_below hb h) hlt
      have hcall := HP.out wr ds x[k] (List.getElem_mem hlt) hrd hb
      obtain ⟨rfl, sag0, sag1⟩ := rd_Binding hrd
      have e0 : wr.cell? ⟨b, o + k * 2, none⟩ = some (vS x[k].1) := by simpa [Ty.sz] using hcell 0 (by decide)
      have e1 : wr.cell? ⟨b, o + k * 2 + 1, none⟩ = some (vS x[k].2) := by simpa [Ty.sz] using hcell 1 (by decide)
      clear hcell hl
      cases hq : p x[k]
      · have HQ := Lib.hid hq
        rw [hq] at hcall
        go_wp2_with (go_at_fn g; refine hcall.mono ?_; rintro e w' ⟨rfl, hb'⟩)
        go_roundw
        case rel => exact ⟨k + 1, by omega, by go_num, by rw [HS.out, HT.out, HQ.out]; rfl, bel_trans hb hb'⟩
        case measure => simp [intOf]; omega
      · have HQ := Lib.hid hq
        rw [hq] at hcall
        go_wp2_with (go_at_fn g; refine hcall.mono ?_; rintro e w' ⟨rfl, hb'⟩)
        go_ret
        exact ⟨ret_int (ixf_hit p x hlt HT.out HQ.out).symm, bel_trans hb hb'⟩
    · have HE : Hid (x.any p = false) := by have := HT.out; rwa [List.take_of_length_le (by omega)] at this
      go_wp2
      go_ret
      exact ⟨ret_int (ixf_miss p x HE.out).symm, hb⟩
theorem hmf_ {P : Program} : ∀ (fn : Fn) (first cap : Array Value) (w : World), (Instr.makeFunc fn first cap).run P w = .ok (.func fn first cap) w := fun _ _ _ _ => rfl
end Go.Proofs.Ytldgbnlcnlfmeaa

/- Rules are right: the reference; lists of rules. -/
namespace Go.Proofs.Ytldgbnlcnlfmeaa
open Go.RowKit
set_option linter.unusedVariables false
set_option linter.unusedSimpArgs false

set_option maxHeartbeats 4000000 in
theorem C_spec_ValidRule (w : World) (cs : List Value) (x : tRule.D) (h : tRule.rd w cs x) (s0 : Ty.bulk tRule x ≤ 1048576) :
    Calls Try.prog 172 #[.agg cs.toArray] w (RetB w (validRule x)) := by
  obtain ⟨A0, c0, A1, c1, rfl, g0, g1⟩ := rd_Rule h
  obtain ⟨_, _, _, _, _, n1⟩ := Ty.rd_sl g1
  have HF := Lib.hid (validRule_eq x)
  have kb0 : (w.alloc (.cells #[.slice A0 (List.length x.1) c0, .slice A1 (List.length x.2) c1] 167)).cell? ⟨w.heap.size, 0, none⟩ = some (.slice A0 (List.length x.1) c0) := cell_new w _ _ 0 rfl
  have kb1 : (w.alloc (.cells #[.slice A0 (List.length x.1) c0, .slice A1 (List.length x.2) c1] 167)).cell? ⟨w.heap.size, 1, none⟩ = some (.slice A1 (List.length x.2) c1) := cell_new w _ _ 1 rfl
  have hvb : Below w.heap.size w (w.alloc (.cells #[.slice A0 (List.length x.1) c0, .slice A1 (List.length x.2) c1] 167)) := (by repeat' (first | (with_reducible exact Below.refl _ _) | (with_reducible assumption) | (with_reducible refine bel_set ?_ (by (try dsimp only); omega) _) | (with_reducible refine bel_alloc ?_ _) | (with_reducible refine bel_drewN ?_ _) | (with_reducible refine bel_drew ?_)))
  have hzb : w.heap.size < (w.alloc (.cells #[.slice A0 (List.length x.1) c0, .slice A1 (List.length x.2) c1] 167)).heap.size := by rw [World.size_alloc]; omega
  go_enter Try.func172, Try.ntmps172
  go_wp2_with fail
  generalize w.alloc (.cells #[.slice A0 (List.length x.1) c0, .slice A1 (List.length x.2) c1] 167) = WB at kb0 kb1 hvb hzb ⊢
  refine (C_spec_ValidPattern _ _ _ (Ty.rd_below hvb g0)).mono ?_
  rintro e w1 ⟨rfl, hb1⟩
  have HC : Hid (∀ W, Below WB.heap.size WB W → W.cell? ⟨w.heap.size, 0, none⟩ = some (.slice A0 (List.length x.1) c0) ∧ W.cell? ⟨w.heap.size, 1, none⟩ = some (.slice A1 (List.length x.2) c1)) := fun W hW => ⟨(hW.cell (p := ⟨w.heap.size, 0, none⟩) hzb).trans kb0, (hW.cell (p := ⟨w.heap.size, 1, none⟩) hzb).trans kb1⟩
  clear kb0 kb1
  obtain ⟨k10, k11⟩ := HC.out _ hb1
  have hw1 : Below w.heap.size w w1 := bel_trans hvb hb1
  cases q0 : validPat x.1
  · rw [q0] at HF
    go_wp2
    go_ret
    exact ⟨ret_bool (by rw [HF.out]; rfl), hw1⟩
  rw [q0] at HF
  go_wp2_with fail
  refine (C_spec_ValidPattern _ _ _ (Ty.rd_below hw1 g1)).mono ?_
  rintro e w2 ⟨rfl, hb2⟩
  have hv2 : Below WB.heap.size WB w2 := bel_trans hb1 hb2
  clear k10 k11
  obtain ⟨k20, k21⟩ := HC.out _ hv2
  have hw2 : Below w.heap.size w w2 := bel_trans hvb hv2
  cases q1 : validPat x.2
  · rw [q1] at HF
    go_wp2
    go_ret
    exact ⟨ret_bool (by rw [HF.out]; rfl), hw2⟩
  rw [q1] at HF
  go_wp2
  clear k20 k21
  go_loopw [3] (fun i wr => ∃ k : Nat, k ≤ x.2.length ∧ i = .int .i64 k ∧ (List.take k x.2).all (vrP x.1) = true ∧ Below WB.heap.size WB wr) (fun i _ => x.2.length - (intOf i).toNat)
  case atStart => exact ⟨0, by omega, rfl, by first | rfl | simp, hv2⟩
  case round =>
    obtain ⟨k, hk, rfl, ht, hb⟩ := hrel
    have hw : Below w.heap.size w wr := bel_trans hvb hb
    obtain ⟨k0, k1⟩ := HC.out _ hb
    have HT := Lib.hid ht
    clear ht
    by_cases hlt : k < x.2.length
    · have HS := Lib.hid (all_take_succ (vrP x.1) x.2 hlt)
      have HN := Lib.hid (fun q => all_false_of (vrP x.1) x.2 hlt q)
      obtain ⟨b, o, ds, rfl, hl, hcell, hrd⟩ := Ty.rd_at (Ty.rd_below hw g1) hlt
      obtain ⟨rfl, hsl⟩ := hrd
      have e0 : wr.cell? ⟨b, o + k, none⟩ = some (vS x.2[k]) := by simpa [Ty.sz] using hcell 0 (by decide)
      have HP := Lib.hid (show vrP x.1 x.2[k] = (!isVar x.2[k] || x.1.any (eqs x.2[k])) from rfl)
      clear hcell hl
      have hlb : b < wr.heap.size := World.block_lt_of_cell? wr _ e0
      have HH : Hid (∀ W, Below wr.heap.size wr W → Below WB.heap.size WB W ∧ W.cell? ⟨w.heap.size, 0, none⟩ = some (.slice A0 (List.length x.1) c0) ∧ W.cell? ⟨w.heap.size, 1, none⟩ = some (.slice (some ⟨b, o, none⟩) (List.length x.2) c1) ∧ W.cell? ⟨b, o + k, none⟩ = some (vS x.2[k])) := fun W hW =>
        ⟨bel_trans hb hW, (HC.out _ (bel_trans hb hW)).1, (HC.out _ (bel_trans hb hW)).2, (hW.cell (p := ⟨b, o + k, none⟩) hlb).trans e0⟩
      have hv0 : Below wr.heap.size wr wr := Below.refl _ _
      have i0 : (0 : Int) ≤ (k : Int) := by omega
      have i1 : (k : Int) < (x.2.length : Int) := by omega
      cases q3 : isVar x.2[k]
      · rw [q3] at HP
        go_wp2_with fail
        refine wp_region_noPanic ?_
        refine wp_region_held_drew (S := (fun W => Below WB.heap.size WB W ∧ W.cell? ⟨w.heap.size, 0, none⟩ = some (.slice A0 (List.length x.1) c0) ∧ W.cell? ⟨w.heap.size, 1, none⟩ = some (.slice (some ⟨b, o, none⟩) (List.length x.2) c1) ∧ W.cell? ⟨b, o + k, none⟩ = some (vS x.2[k]))) (by kernel_rfl) ?_ (fun hHeld => ?_)
        · exact HH.out _ (by repeat' (first | (with_reducible exact Below.refl _ _) | (with_reducible assumption) | (with_reducible refine bel_set ?_ (by (try dsimp only); omega) _) | (with_reducible refine bel_alloc ?_ _) | (with_reducible refine bel_drewN ?_ _) | (with_reducible refine bel_drew ?_)))
        refine tk 0 (opN rfl) (by kernel_rfl) (by rfl) (by (intro w hSw; (try dsimp only at hSw); go_simp; first | done | with_reducible rfl)) (by assumption) ?_
        try simp only [Act.put, List.setIfInBounds_toArray, List.set_cons_zero, List.set_cons_succ]
        refine tk 1 (opN rfl) (by kernel_rfl) (by rfl) (by (intro w hSw; (try dsimp only at hSw); go_simp; first | done | with_reducible rfl)) (by assumption) ?_
        try simp only [Act.put, List.setIfInBounds_toArray, List.set_cons_zero, List.set_cons_succ]
        refine tk 2 (opN rfl) (by kernel_rfl) (by rfl) (by (intro w hSw; (try dsimp only at hSw); go_simp; first | done | with_reducible rfl)) (by assumption) ?_
        try simp only [Act.put, List.setIfInBounds_toArray, List.set_cons_zero, List.set_cons_succ]
        refine tk 3 (opN rfl) (by kernel_rfl) (by rfl) (by (intro w hSw; (try dsimp only at hSw); go_simp; first | done | with_reducible rfl)) (by assumption) ?_
        try simp only [Act.put, List.setIfInBounds_toArray, List.set_cons_zero, List.set_cons_succ]
        refine tk 4 (opN rfl) (by kernel_rfl) (by rfl) (by (intro w hSw; (try dsimp only at hSw); go_simp; first | done | with_reducible rfl)) (by assumption) ?_
        try simp only [Act.put, List.setIfInBounds_toArray, List.set_cons_zero, List.set_cons_succ]
        refine tk 5 (opN rfl) (by kernel_rfl) (by rfl) (by (intro w hSw; (try dsimp only at hSw); go_simp; first | done | with_reducible rfl)) (by assumption) ?_
        try simp only [Act.put, List.setIfInBounds_toArray, List.set_cons_zero, List.set_cons_succ]
        refine wpAnyH_ready (rs := [6]) (by kernel_rfl) (by simp) ?_
        refine AllReadyH.cons (opN rfl) (fun K hK => ?_) AllReadyH.nil
        go_simp
        go_at_call 181
        refine (C_spec_l5Letter _ _ hsl).mono ?_
        rw [q3]
        rintro e w3 ⟨rfl, hw3⟩
        subst hw3
        refine hK.out _ _ ?_ (fun hHeld => ?_)
        · (try dsimp only)
          exact HH.out _ (by repeat' (first | (with_reducible exact Below.refl _ _) | (with_reducible assumption) | (with_reducible refine bel_set ?_ (by (try dsimp only); omega) _) | (with_reducible refine bel_alloc ?_ _) | (with_reducible refine bel_drewN ?_ _) | (with_reducible refine bel_drew ?_)))
        clear hK K
        try simp only [Act.put, List.setIfInBounds_toArray, List.set_cons_zero, List.set_cons_succ]
        refine tk 7 (opN rfl) (by kernel_rfl) (by rfl) (by (intro w hSw; (try dsimp only at hSw); go_simp; first | done | with_reducible rfl)) (by assumption) ?_
        try simp only [Act.put, List.setIfInBounds_toArray, List.set_cons_zero, List.set_cons_succ]
        refine sk 8 (opN rfl) (by kernel_rfl) (by rfl) (by assumption) ?_
        try simp only [Act.put, List.setIfInBounds_toArray, List.set_cons_zero, List.set_cons_succ]
        refine sk 9 (opN rfl) (by kernel_rfl) (by rfl) (by assumption) ?_
        try simp only [Act.put, List.setIfInBounds_toArray, List.set_cons_zero, List.set_cons_succ]
        refine sk 10 (opN rfl) (by kernel_rfl) (by rfl) (by assumption) ?_
        try simp only [Act.put, List.setIfInBounds_toArray, List.set_cons_zero, List.set_cons_succ]
        refine sk 11 (opN rfl) (by kernel_rfl) (by rfl) (by assumption) ?_
        try simp only [Act.put, List.setIfInBounds_toArray, List.set_cons_zero, List.set_cons_succ]
        refine sk 12 (opN rfl) (by kernel_rfl) (by rfl) (by assumption) ?_
        try simp only [Act.put, List.setIfInBounds_toArray, List.set_cons_zero, List.set_cons_succ]
        refine sk 13 (opN rfl) (by kernel_rfl) (by rfl) (by assumption) ?_
        try simp only [Act.put, List.setIfInBounds_toArray, List.set_cons_zero, List.set_cons_succ]
        refine sk 14 (opN rfl) (by kernel_rfl) (by rfl) (by assumption) ?_
        try simp only [Act.put, List.setIfInBounds_toArray, List.set_cons_zero, List.set_cons_succ]
        refine sk 15 (opN rfl) (by kernel_rfl) (by rfl) (by assumption) ?_
        try simp only [Act.put, List.setIfInBounds_toArray, List.set_cons_zero, List.set_cons_succ]
        refine sk 16 (opN rfl) (by kernel_rfl) (by rfl) (by assumption) ?_
        try simp only [Act.put, List.setIfInBounds_toArray, List.set_cons_zero, List.set_cons_succ]
        refine sk 17 (opN rfl) (by kernel_rfl) (by rfl) (by assumption) ?_
        try simp only [Act.put, List.setIfInBounds_toArray, List.set_cons_zero, List.set_cons_succ]
        refine tk 18 (opN rfl) (by kernel_rfl) (by rfl) (by (intro w hSw; (try dsimp only at hSw); go_simp; first | done | with_reducible rfl)) (by assumption) ?_
        try simp only [Act.put, List.setIfInBounds_toArray, List.set_cons_zero, List.set_cons_succ]
        refine wpAnyH_done (by kernel_rfl) ?_ _
        refine NoPanic.normal ?_
        go_wp2
        exact ⟨⟨k + 1, by omega, by go_num, by rw [HS.out, HT.out, HP.out]; rfl, (by (repeat' (first | (with_reducible exact Below.refl _ _) | (with_reducible assumption) | (with_reducible refine bel_set ?_ (by (try dsimp only); omega) _) | (with_reducible refine bel_alloc ?_ _) | (with_reducible refine bel_drewN ?_ _) | (with_reducible refine bel_drew ?_) | (with_reducible refine bel_trans ?_ (by assumption)))); done)⟩, by simp [intOf]; omega⟩
      · rw [q3] at HP
        cases q4 : x.1.any (eqs x.2[k])
        · rw [q4] at HP
          go_wp2_with fail
          refine wp_region_noPanic ?_
          refine wp_region_held_drew (S := (fun W => Below WB.heap.size WB W ∧ W.cell? ⟨w.heap.size, 0, none⟩ = some (.slice A0 (List.length x.1) c0) ∧ W.cell? ⟨w.heap.size, 1, none⟩ = some (.slice (some ⟨b, o, none⟩) (List.length x.2) c1) ∧ W.cell? ⟨b, o + k, none⟩ = some (vS x.2[k]))) (by kernel_rfl) ?_ (fun hHeld => ?_)
          · exact HH.out _ (by repeat' (first | (with_reducible exact Below.refl _ _) | (with_reducible assumption) | (with_reducible refine bel_set ?_ (by (try dsimp only); omega) _) | (with_reducible refine bel_alloc ?_ _) | (with_reducible refine bel_drewN ?_ _) | (with_reducible refine bel_drew ?_)))
          refine tk 0 (opN rfl) (by kernel_rfl) (by rfl) (by (intro w hSw; (try dsimp only at hSw); go_simp; first | done | with_reducible rfl)) (by assumption) ?_
          try simp only [Act.put, List.setIfInBounds_toArray, List.set_cons_zero, List.set_cons_succ]
          refine tk 1 (opN rfl) (by kernel_rfl) (by rfl) (by (intro w hSw; (try dsimp only at hSw); go_simp; first | done | with_reducible rfl)) (by assumption) ?_
          try simp only [Act.put, List.setIfInBounds_toArray, List.set_cons_zero, List.set_cons_succ]
          refine tk 2 (opN rfl) (by kernel_rfl) (by rfl) (by (intro w hSw; (try dsimp only at hSw); go_simp; first | done | with_reducible rfl)) (by assumption) ?_
          try simp only [Act.put, List.setIfInBounds_toArray, List.set_cons_zero, List.set_cons_succ]
          refine tk 3 (opN rfl) (by kernel_rfl) (by rfl) (by (intro w hSw; (try dsimp only at hSw); go_simp; first | done | with_reducible rfl)) (by assumption) ?_
          try simp only [Act.put, List.setIfInBounds_toArray, List.set_cons_zero, List.set_cons_succ]
          refine tk 4 (opN rfl) (by kernel_rfl) (by rfl) (by (intro w hSw; (try dsimp only at hSw); go_simp; first | done | with_reducible rfl)) (by assumption) ?_
          try simp only [Act.put, List.setIfInBounds_toArray, List.set_cons_zero, List.set_cons_succ]
          refine tk 5 (opN rfl) (by kernel_rfl) (by rfl) (by (intro w hSw; (try dsimp only at hSw); go_simp; first | done | with_reducible rfl)) (by assumption) ?_
          try simp only [Act.put, List.setIfInBounds_toArray, List.set_cons_zero, List.set_cons_succ]
          refine wpAnyH_ready (rs := [6]) (by kernel_rfl) (by simp) ?_
          refine AllReadyH.cons (opN rfl) (fun K hK => ?_) AllReadyH.nil
          go_simp
          go_at_call 181
          refine (C_spec_l5Letter _ _ hsl).mono ?_
          rw [q3]
          rintro e w3 ⟨rfl, hw3⟩
          subst hw3
          refine hK.out _ _ ?_ (fun hHeld => ?_)
          · (try dsimp only)
            exact HH.out _ (by repeat' (first | (with_reducible exact Below.refl _ _) | (with_reducible assumption) | (with_reducible refine bel_set ?_ (by (try dsimp only); omega) _) | (with_reducible refine bel_alloc ?_ _) | (with_reducible refine bel_drewN ?_ _) | (with_reducible refine bel_drew ?_)))
          clear hK K
          try simp only [Act.put, List.setIfInBounds_toArray, List.set_cons_zero, List.set_cons_succ]
          refine tk 7 (opN rfl) (by kernel_rfl) (by rfl) (by (intro w hSw; (try dsimp only at hSw); go_simp; first | done | with_reducible rfl)) (by assumption) ?_
          try simp only [Act.put, List.setIfInBounds_toArray, List.set_cons_zero, List.set_cons_succ]
          refine tk 8 (opN rfl) (by kernel_rfl) (by rfl) (by (intro w hSw; (try dsimp only at hSw); go_simp; first | done | with_reducible rfl)) (by assumption) ?_
          try simp only [Act.put, List.setIfInBounds_toArray, List.set_cons_zero, List.set_cons_succ]
          refine tk 9 (opN rfl) (by kernel_rfl) (by rfl) (by (intro w hSw; (try dsimp only at hSw); go_simp; first | done | with_reducible rfl)) (by assumption) ?_
          try simp only [Act.put, List.setIfInBounds_toArray, List.set_cons_zero, List.set_cons_succ]
          refine tk 10 (opN rfl) (by kernel_rfl) (by rfl) (by (intro w hSw; (try dsimp only at hSw); go_simp; first | done | with_reducible rfl)) (by assumption) ?_
          try simp only [Act.put, List.setIfInBounds_toArray, List.set_cons_zero, List.set_cons_succ]
          refine tk 11 (opN rfl) (by kernel_rfl) (by rfl) (by (intro w hSw; (try dsimp only at hSw); go_simp; first | done | with_reducible rfl)) (by assumption) ?_
          try simp only [Act.put, List.setIfInBounds_toArray, List.set_cons_zero, List.set_cons_succ]
          refine tk 12 (opN rfl) (by kernel_rfl) (by rfl) (by (intro w hSw; (try dsimp only at hSw); go_simp; first | done | with_reducible rfl)) (by assumption) ?_
          try simp only [Act.put, List.setIfInBounds_toArray, List.set_cons_zero, List.set_cons_succ]
          refine tk 13 (opN rfl) (by kernel_rfl) (by rfl) (by (intro w hSw; (try dsimp only at hSw); go_simp; first | done | with_reducible rfl)) (by assumption) ?_
          try simp only [Act.put, List.setIfInBounds_toArray, List.set_cons_zero, List.set_cons_succ]
          refine tk 14 (opN rfl) (by kernel_rfl) (by rfl) (by (intro w hSw; (try dsimp only at hSw); go_simp; first | done | with_reducible rfl)) (by assumption) ?_
          try simp only [Act.put, List.setIfInBounds_toArray, List.set_cons_zero, List.set_cons_succ]
          refine tk 15 (opN rfl) (by kernel_rfl) (by rfl) (by (intro w hSw; (try dsimp only at hSw); go_simp; first | done | with_reducible rfl)) (by assumption) ?_
          try simp only [Act.put, List.setIfInBounds_toArray, List.set_cons_zero, List.set_cons_succ]
          refine wpAnyH_ready (rs := [16]) (by kernel_rfl) (by simp) ?_
          refine AllReadyH.cons (opN rfl) (fun K hK => ?_) AllReadyH.nil
          go_simp
          go_at_call 182
          refine (C_spec_l10Has _ _ x.1 _ (Ty.rd_below (by (repeat' (first | (with_reducible exact Below.refl _ _) | (with_reducible assumption) | (with_reducible refine bel_set ?_ (by (try dsimp only); omega) _) | (with_reducible refine bel_alloc ?_ _) | (with_reducible refine bel_drewN ?_ _) | (with_reducible refine bel_drew ?_) | (with_reducible refine bel_trans ?_ (by assumption)))); done) (Ty.rd_below hw g0)) hsl).mono ?_
          rw [q4]
          rintro e w4 ⟨rfl, hb4⟩
          refine hK.out _ _ ?_ (fun hHeld => ?_)
          · (try dsimp only)
            exact HH.out _ (by (repeat' (first | (with_reducible exact Below.refl _ _) | (with_reducible assumption) | (with_reducible refine bel_set ?_ (by (try dsimp only); omega) _) | (with_reducible refine bel_alloc ?_ _) | (with_reducible refine bel_drewN ?_ _) | (with_reducible refine bel_drew ?_) | (with_reducible refine bel_trans ?_ (by assumption)))); done)
          clear hK K
          try simp only [Act.put, List.setIfInBounds_toArray, List.set_cons_zero, List.set_cons_succ]
          refine tk 17 (opN rfl) (by kernel_rfl) (by rfl) (by (intro w hSw; (try dsimp only at hSw); go_simp; first | done | with_reducible rfl)) (by assumption) ?_
          try simp only [Act.put, List.setIfInBounds_toArray, List.set_cons_zero, List.set_cons_succ]
          refine tk 18 (opN rfl) (by kernel_rfl) (by rfl) (by (intro w hSw; (try dsimp only at hSw); go_simp; first | done | with_reducible rfl)) (by assumption) ?_
          try simp only [Act.put, List.setIfInBounds_toArray, List.set_cons_zero, List.set_cons_succ]
          refine wpAnyH_done (by kernel_rfl) ?_ _
          refine NoPanic.normal ?_
          go_wp2
          go_ret
          exact ⟨ret_bool (by rw [HF.out, HN.out HP.out]; rfl), (by (repeat' (first | (with_reducible exact Below.refl _ _) | (with_reducible assumption) | (with_reducible refine bel_set ?_ (by (try dsimp only); omega) _) | (with_reducible refine bel_alloc ?_ _) | (with_reducible refine bel_drewN ?_ _) | (with_reducible refine bel_drew ?_) | (with_reducible refine bel_trans ?_ (by assumption)))); done)⟩
        · rw [q4] at HP
          go_wp2_with fail
          refine wp_region_noPanic ?_
          refine wp_region_held_drew (S := (fun W => Below WB.heap.size WB W ∧ W.cell? ⟨w.heap.size, 0, none⟩ = some (.slice A0 (List.length x.1) c0) ∧ W.cell? ⟨w.heap.size, 1, none⟩ = some (.slice (some ⟨b, o, none⟩) (List.length x.2) c1) ∧ W.cell? ⟨b, o + k, none⟩ = some (vS x.2[k]))) (by kernel_rfl) ?_ (fun hHeld => ?_)
          · exact HH.out _ (by repeat' (first | (with_reducible exact Below.refl _ _) | (with_reducible assumption) | (with_reducible refine bel_set ?_ (by (try dsimp only); omega) _) | (with_reducible refine bel_alloc ?_ _) | (with_reducible refine bel_drewN ?_ _) | (with_reducible refine bel_drew ?_)))
          refine tk 0 (opN rfl) (by kernel_rfl) (by rfl) (by (intro w hSw; (try dsimp only at hSw); go_simp; first | done | with_reducible rfl)) (by assumption) ?_
          try simp only [Act.put, List.setIfInBounds_toArray, List.set_cons_zero, List.set_cons_succ]
          refine tk 1 (opN rfl) (by kernel_rfl) (by rfl) (by (intro w hSw; (try dsimp only at hSw); go_simp; first | done | with_reducible rfl)) (by assumption) ?_
          try simp only [Act.put, List.setIfInBounds_toArray, List.set_cons_zero, List.set_cons_succ]
          refine tk 2 (opN rfl) (by kernel_rfl) (by rfl) (by (intro w hSw; (try dsimp only at hSw); go_simp; first | done | with_reducible rfl)) (by assumption) ?_
          try simp only [Act.put, List.setIfInBounds_toArray, List.set_cons_zero, List.set_cons_succ]
          refine tk 3 (opN rfl) (by kernel_rfl) (by rfl) (by (intro w hSw; (try dsimp only at hSw); go_simp; first | done | with_reducible rfl)) (by assumption) ?_
          try simp only [Act.put, List.setIfInBounds_toArray, List.set_cons_zero, List.set_cons_succ]
          refine tk 4 (opN rfl) (by kernel_rfl) (by rfl) (by (intro w hSw; (try dsimp only at hSw); go_simp; first | done | with_reducible rfl)) (by assumption) ?_
          try simp only [Act.put, List.setIfInBounds_toArray, List.set_cons_zero, List.set_cons_succ]
          refine tk 5 (opN rfl) (by kernel_rfl) (by rfl) (by (intro w hSw; (try dsimp only at hSw); go_simp; first | done | with_reducible rfl)) (by assumption) ?_
          try simp only [Act.put, List.setIfInBounds_toArray, List.set_cons_zero, List.set_cons_succ]
          refine wpAnyH_ready (rs := [6]) (by kernel_rfl) (by simp) ?_
          refine AllReadyH.cons (opN rfl) (fun K hK => ?_) AllReadyH.nil
          go_simp
          go_at_call 181
          refine (C_spec_l5Letter _ _ hsl).mono ?_
          rw [q3]
          rintro e w3 ⟨rfl, hw3⟩
          subst hw3
          refine hK.out _ _ ?_ (fun hHeld => ?_)
          · (try dsimp only)
            exact HH.out _ (by repeat' (first | (with_reducible exact Below.refl _ _) | (with_reducible assumption) | (with_reducible refine bel_set ?_ (by (try dsimp only); omega) _) | (with_reducible refine bel_alloc ?_ _) | (with_reducible refine bel_drewN ?_ _) | (with_reducible refine bel_drew ?_)))
          clear hK K
          try simp only [Act.put, List.setIfInBounds_toArray, List.set_cons_zero, List.set_cons_succ]
          refine tk 7 (opN rfl) (by kernel_rfl) (by rfl) (by (intro w hSw; (try dsimp only at hSw); go_simp; first | done | with_reducible rfl)) (by assumption) ?_
          try simp only [Act.put, List.setIfInBounds_toArray, List.set_cons_zero, List.set_cons_succ]
          refine tk 8 (opN rfl) (by kernel_rfl) (by rfl) (by (intro w hSw; (try dsimp only at hSw); go_simp; first | done | with_reducible rfl)) (by assumption) ?_
          try simp only [Act.put, List.setIfInBounds_toArray, List.set_cons_zero, List.set_cons_succ]
          refine tk 9 (opN rfl) (by kernel_rfl) (by rfl) (by (intro w hSw; (try dsimp only at hSw); go_simp; first | done | with_reducible rfl)) (by assumption) ?_
          try simp only [Act.put, List.setIfInBounds_toArray, List.set_cons_zero, List.set_cons_succ]
          refine tk 10 (opN rfl) (by kernel_rfl) (by rfl) (by (intro w hSw; (try dsimp only at hSw); go_simp; first | done | with_reducible rfl)) (by assumption) ?_
          try simp only [Act.put, List.setIfInBounds_toArray, List.set_cons_zero, List.set_cons_succ]
          refine tk 11 (opN rfl) (by kernel_rfl) (by rfl) (by (intro w hSw; (try dsimp only at hSw); go_simp; first | done | with_reducible rfl)) (by assumption) ?_
          try simp only [Act.put, List.setIfInBounds_toArray, List.set_cons_zero, List.set_cons_succ]
          refine tk 12 (opN rfl) (by kernel_rfl) (by rfl) (by (intro w hSw; (try dsimp only at hSw); go_simp; first | done | with_reducible rfl)) (by assumption) ?_
          try simp only [Act.put, List.setIfInBounds_toArray, List.set_cons_zero, List.set_cons_succ]
          refine tk 13 (opN rfl) (by kernel_rfl) (by rfl) (by (intro w hSw; (try dsimp only at hSw); go_simp; first | done | with_reducible rfl)) (by assumption) ?_
          try simp only [Act.put, List.setIfInBounds_toArray, List.set_cons_zero, List.set_cons_succ]
          refine tk 14 (opN rfl) (by kernel_rfl) (by rfl) (by (intro w hSw; (try dsimp only at hSw); go_simp; first | done | with_reducible rfl)) (by assumption) ?_
          try simp only [Act.put, List.setIfInBounds_toArray, List.set_cons_zero, List.set_cons_succ]
          refine tk 15 (opN rfl) (by kernel_rfl) (by rfl) (by (intro w hSw; (try dsimp only at hSw); go_simp; first | done | with_reducible rfl)) (by assumption) ?_
          try simp only [Act.put, List.setIfInBounds_toArray, List.set_cons_zero, List.set_cons_succ]
          refine wpAnyH_ready (rs := [16]) (by kernel_rfl) (by simp) ?_
          refine AllReadyH.cons (opN rfl) (fun K hK => ?_) AllReadyH.nil
          go_simp
          go_at_call 182
          refine (C_spec_l10Has _ _ x.1 _ (Ty.rd_below (by (repeat' (first | (with_reducible exact Below.refl _ _) | (with_reducible assumption) | (with_reducible refine bel_set ?_ (by (try dsimp only); omega) _) | (with_reducible refine bel_alloc ?_ _) | (with_reducible refine bel_drewN ?_ _) | (with_reducible refine bel_drew ?_) | (with_reducible refine bel_trans ?_ (by assumption)))); done) (Ty.rd_below hw g0)) hsl).mono ?_
          rw [q4]
          rintro e w4 ⟨rfl, hb4⟩
          refine hK.out _ _ ?_ (fun hHeld => ?_)
          · (try dsimp only)
            exact HH.out _ (by (repeat' (first | (with_reducible exact Below.refl _ _) | (with_reducible assumption) | (with_reducible refine bel_set ?_ (by (try dsimp only); omega) _) | (with_reducible refine bel_alloc ?_ _) | (with_reducible refine bel_drewN ?_ _) | (with_reducible refine bel_drew ?_) | (with_reducible refine bel_trans ?_ (by assumption)))); done)
          clear hK K
          try simp only [Act.put, List.setIfInBounds_toArray, List.set_cons_zero, List.set_cons_succ]
          refine tk 17 (opN rfl) (by kernel_rfl) (by rfl) (by (intro w hSw; (try dsimp only at hSw); go_simp; first | done | with_reducible rfl)) (by assumption) ?_
          try simp only [Act.put, List.setIfInBounds_toArray, List.set_cons_zero, List.set_cons_succ]
          refine tk 18 (opN rfl) (by kernel_rfl) (by rfl) (by (intro w hSw; (try dsimp only at hSw); go_simp; first | done | with_reducible rfl)) (by assumption) ?_
          try simp only [Act.put, List.setIfInBounds_toArray, List.set_cons_zero, List.set_cons_succ]
          refine wpAnyH_done (by kernel_rfl) ?_ _
          refine NoPanic.normal ?_
          go_wp2
          exact ⟨⟨k + 1, by omega, by go_num, by rw [HS.out, HT.out, HP.out]; rfl, (by (repeat' (first | (with_reducible exact Below.refl _ _) | (with_reducible assumption) | (with_reducible refine bel_set ?_ (by (try dsimp only); omega) _) | (with_reducible refine bel_alloc ?_ _) | (with_reducible refine bel_drewN ?_ _) | (with_reducible refine bel_drew ?_) | (with_reducible refine bel_trans ?_ (by assumption)))); done)⟩, by simp [intOf]; omega⟩
    · have HE : Hid (List.all x.2 (vrP x.1) = true) := by have := HT.out; rwa [List.take_of_length_le (by omega)] at this
      go_wp2
      go_ret
      exact ⟨ret_bool (by rw [HF.out, HE.out]; rfl), hw⟩
end Go.Proofs.Ytldgbnlcnlfmeaa
