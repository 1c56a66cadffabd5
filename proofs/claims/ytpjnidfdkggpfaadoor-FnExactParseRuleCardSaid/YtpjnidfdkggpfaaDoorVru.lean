/- Rules are right. -/
import Derived.Test.YtpjnidfdkggpfaaDoorHas
namespace Go.Proofs.YtpjnidfdkggpfaaDoor
open Go.RowKit
set_option linter.unusedVariables false
set_option linter.unusedSimpArgs false

theorem ixf_sign (f : List UInt8 → Bool) (p : List (List UInt8)) : decide (0 ≤ ixf f p) = p.any f := by
  rcases find_ixf f p with ⟨hi, hf⟩ | ⟨k, hk, hi, hf⟩
  · rw [hi]
    cases h : p.any f
    · rfl
    · obtain ⟨q, hq, he⟩ := List.any_eq_true.1 h
      exact absurd he (by have := List.find?_eq_none.1 hf q hq; simpa using this)
  · rw [hi]
    have h1 := List.find?_some hf
    rw [List.any_eq_true.2 ⟨_, List.mem_of_find?_eq_some hf, h1⟩]
    simp
set_option maxHeartbeats 1000000 in
theorem C_Contains_str (w : World) (v : Value) (p : List (List UInt8)) (s : List UInt8) (h : (Ty.sl .str).rd w [v] p) (hs : s.length ≤ 9223372036854775807) :
    Calls Tryd.prog 45 #[v, vS s] w (RetBP w (p.any (eqs s))) := by
  have HI := Lib.hid (ixf_sign (eqs s) p)
  go_enter Tryd.func45, Tryd.ntmps45
  go_wp2_with fail
  refine (C_Index_str _ _ p s h hs).mono ?_
  rintro e w1 ⟨rfl, rfl⟩
  go_wp2
  go_ret
  exact ⟨ret_bool HI.out, rfl⟩
def vrP (a : List (List UInt8)) (s : List UInt8) : Bool := !isVar s || a.any (eqs s)
theorem validRule_eq (x : tRule.D) : validRule x = (validPat x.1 && validPat x.2 && List.all x.2 (vrP x.1)) := by
  unfold validRule
  congr 2
  funext s; unfold vrP; rw [contains_any]
set_option maxHeartbeats 2000000 in
theorem C_impl_ValidRule (w : World) (cs : List Value) (x : tRule.D) (h : tRule.rd w cs x) (s0 : Ty.bulk tRule x ≤ 1048576) :
    Calls Tryd.prog 27 #[.agg cs.toArray] w (RetB w (validRule x)) := by
  obtain ⟨A0, c0, A1, c1, rfl, g0, g1⟩ := rd_Rule h
  obtain ⟨_, _, _, _, _, n1⟩ := Ty.rd_sl g1
  have HF := Lib.hid (validRule_eq x)
  go_enter Tryd.func27, Tryd.ntmps27
  go_wp2_with fail
  refine (C_impl_ValidPattern _ _ _ (Ty.rd_below (by repeat' (first | (with_reducible exact Below.refl _ _) | (with_reducible assumption) | (with_reducible refine bel_set ?_ (by (try dsimp only); omega) _) | (with_reducible refine bel_alloc ?_ _) | (with_reducible refine bel_drewN ?_ _) | (with_reducible refine bel_drew ?_))) g0)).mono ?_
  rintro e w1 ⟨rfl, hb1⟩
  obtain ⟨hc1, hf1⟩ := bcell hb1
  have z1 : w.heap.size < w1.heap.size := by have := hb1.size; simp only [World.size_alloc] at this; omega
  cases q0 : validPat x.1
  · rw [q0] at HF
    go_wp2
    go_ret
    exact ⟨ret_bool (by rw [HF.out]; rfl), bel_trans (by repeat' (first | (with_reducible exact Below.refl _ _) | (with_reducible assumption) | (with_reducible refine bel_set ?_ (by (try dsimp only); omega) _) | (with_reducible refine bel_alloc ?_ _) | (with_reducible refine bel_drewN ?_ _) | (with_reducible refine bel_drew ?_))) hb1⟩
  rw [q0] at HF
  go_wp2_with fail
  have hw1 : Below w.heap.size w w1 := bel_trans (by repeat' (first | (with_reducible exact Below.refl _ _) | (with_reducible assumption) | (with_reducible refine bel_set ?_ (by (try dsimp only); omega) _) | (with_reducible refine bel_alloc ?_ _) | (with_reducible refine bel_drewN ?_ _) | (with_reducible refine bel_drew ?_))) hb1
  refine (C_impl_ValidPattern _ _ _ (Ty.rd_below hw1 g1)).mono ?_
  rintro e w2 ⟨rfl, hb2⟩
  have hv2 : Below (w.alloc (.cells #[.slice A0 (List.length x.1) c0, .slice A1 (List.length x.2) c1] 37)).heap.size (w.alloc (.cells #[.slice A0 (List.length x.1) c0, .slice A1 (List.length x.2) c1] 37)) w2 := bel_trans hb1 hb2
  clear hb2 hc1 hf1 hb1 z1 hw1
  obtain ⟨hc2, hf2⟩ := bcell hv2
  have z2 : w.heap.size < w2.heap.size := by have := hv2.size; simp only [World.size_alloc] at this; omega
  cases q1 : validPat x.2
  · rw [q1] at HF
    go_wp2
    go_ret
    exact ⟨ret_bool (by rw [HF.out]; rfl), bel_trans (by repeat' (first | (with_reducible exact Below.refl _ _) | (with_reducible assumption) | (with_reducible refine bel_set ?_ (by (try dsimp only); omega) _) | (with_reducible refine bel_alloc ?_ _) | (with_reducible refine bel_drewN ?_ _) | (with_reducible refine bel_drew ?_))) hv2⟩
  rw [q1] at HF
  go_wp2
  go_loopw [19] (fun i wr => ∃ k : Nat, k ≤ x.2.length ∧ i = .int .i64 k ∧ (List.take k x.2).all (vrP x.1) = true ∧ Below (w.alloc (.cells #[.slice A0 (List.length x.1) c0, .slice A1 (List.length x.2) c1] 37)).heap.size (w.alloc (.cells #[.slice A0 (List.length x.1) c0, .slice A1 (List.length x.2) c1] 37)) wr) (fun i _ => x.2.length - (intOf i).toNat)
  case atStart => exact ⟨0, by omega, rfl, by first | rfl | simp, hv2⟩
  case round =>
    obtain ⟨k, hk, rfl, ht, hb⟩ := hrel
    have hw : Below w.heap.size w wr := bel_trans (by repeat' (first | (with_reducible exact Below.refl _ _) | (with_reducible assumption) | (with_reducible refine bel_set ?_ (by (try dsimp only); omega) _) | (with_reducible refine bel_alloc ?_ _) | (with_reducible refine bel_drewN ?_ _) | (with_reducible refine bel_drew ?_))) hb
    obtain ⟨hc, hf⟩ := bcell hb
    have z3 : w.heap.size < wr.heap.size := by have := hb.size; simp only [World.size_alloc] at this; omega
    have HT := Lib.hid ht
    clear ht
    by_cases hlt : k < x.2.length
    · have HS := Lib.hid (all_take_succ (vrP x.1) x.2 hlt)
      have HN := Lib.hid (fun q => all_false_of (vrP x.1) x.2 hlt q)
      obtain ⟨b, o, ds, rfl, hl, hcell, hrd⟩ := Ty.rd_at (Ty.rd_below hw g1) hlt
      obtain ⟨rfl, hsl⟩ := hrd
      have e0 : wr.cell? ⟨b, o + k, none⟩ = some (vS x.2[k]) := by simpa [Ty.sz] using hcell 0 (by decide)
      have HP := Lib.hid (show vrP x.1 x.2[k] = (!isVar x.2[k] || x.1.any (eqs x.2[k])) from rfl)
      clear hcell hl
      go_wp2_with fail
      refine (C_impl_isVariable _ _ hsl).mono ?_
      rintro e w3 ⟨rfl, rfl⟩
      cases q3 : isVar x.2[k]
      · rw [q3] at HP
        go_wp2
        exact ⟨⟨k + 1, by omega, by go_num, by rw [HS.out, HT.out, HP.out]; rfl, hb⟩, by simp [intOf]; omega⟩
      · rw [q3] at HP
        go_wp2_with fail
        refine (C_Contains_str _ _ x.1 _ (Ty.rd_below hw g0) hsl).mono ?_
        rintro e w4 ⟨rfl, rfl⟩
        cases q4 : x.1.any (eqs x.2[k])
        · rw [q4] at HP
          go_wp2
          go_ret
          exact ⟨ret_bool (by rw [HF.out, HN.out HP.out]; rfl), hw⟩
        · rw [q4] at HP
          go_wp2
          exact ⟨⟨k + 1, by omega, by go_num, by rw [HS.out, HT.out, HP.out]; rfl, hb⟩, by simp [intOf]; omega⟩
    · have HE : Hid (List.all x.2 (vrP x.1) = true) := by have := HT.out; rwa [List.take_of_length_le (by omega)] at this
      go_wp2
      go_ret
      exact ⟨ret_bool (by rw [HF.out, HE.out]; rfl), hw⟩
end Go.Proofs.YtpjnidfdkggpfaaDoor
