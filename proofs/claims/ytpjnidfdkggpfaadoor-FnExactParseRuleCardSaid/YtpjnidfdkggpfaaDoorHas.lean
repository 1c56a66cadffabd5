/- A part of a pattern. -/
import Derived.Test.YtpjnidfdkggpfaaDoorPvl
import Derived.Test.YtpjnidfdkggpfaaDoorKey
namespace Go.Proofs.YtpjnidfdkggpfaaDoor
open Go.RowKit
set_option linter.unusedVariables false
set_option linter.unusedSimpArgs false

def eqs (s q : List UInt8) : Bool := decide (q = s)
theorem contains_any (p : List (List UInt8)) (s : List UInt8) : p.contains s = p.any (eqs s) := by
  rw [Bool.eq_iff_iff, List.contains_iff_mem, List.any_eq_true]
  exact ⟨fun h => ⟨s, h, by simp [eqs]⟩, fun ⟨q, h, e⟩ => by simp [eqs] at e; exact e ▸ h⟩
theorem any_hit (f : List UInt8 → Bool) (p : List (List UInt8)) {k : Nat} (h : k < p.length) (hq : f p[k] = true) : p.any f = true :=
  List.any_eq_true.2 ⟨_, List.getElem_mem h, hq⟩
set_option maxHeartbeats 1000000 in
theorem C_spec_l10Has (w : World) (cs : List Value) (p : List (List UInt8)) (s : List UInt8) (h : (Ty.sl .str).rd w cs p) (hs : s.length ≤ 9223372036854775807) :
    Calls Tryd.prog 39 #[.agg cs.toArray, vS s] w (RetB w (p.any (eqs s))) := by
  obtain ⟨A, c, rfl⟩ := Ty.rd_slv h
  obtain ⟨_, _, _, _, _, n0⟩ := Ty.rd_sl h
  go_enter Tryd.func39, Tryd.ntmps39
  go_wp2
  go_loopw [5] (fun i wr => ∃ k : Nat, k ≤ p.length ∧ i = .int .i64 k ∧ (p.take k).any (eqs s) = false ∧ Below (w.alloc (.cells #[.slice A p.length c] 35)).heap.size (w.alloc (.cells #[.slice A p.length c] 35)) wr) (fun i _ => p.length - (intOf i).toNat)
  case atStart => exact ⟨0, by omega, rfl, by first | rfl | simp, Below.refl _ _⟩
  case round =>
    obtain ⟨k, hk, rfl, ht, hb⟩ := hrel
    have hw : Below w.heap.size w wr := bel_trans (by repeat' (first | (with_reducible exact Below.refl _ _) | (with_reducible assumption) | (with_reducible refine bel_set ?_ (by (try dsimp only); omega) _) | (with_reducible refine bel_alloc ?_ _) | (with_reducible refine bel_drewN ?_ _) | (with_reducible refine bel_drew ?_))) hb
    obtain ⟨hc, hf⟩ := bcell hb
    have HT := Lib.hid ht
    clear ht
    by_cases hlt : k < p.length
    · have HS := Lib.hid (any_take_succ (eqs s) p hlt)
      obtain ⟨b, o, ds, rfl, hl, hcell, hrd⟩ := Ty.rd_at (Ty.rd_below hw h) hlt
      obtain ⟨rfl, hsl⟩ := hrd
      have e0 : wr.cell? ⟨b, o + k, none⟩ = some (vS p[k]) := by simpa [Ty.sz] using hcell 0 (by decide)
      clear hcell hl
      by_cases hq : p[k] = s
      · have HQ := Lib.hid (any_hit (eqs s) p hlt (by simp [eqs, hq]))
        have hq2 : (p[k] == s) = true := by simp [hq]
        go_wp2
        go_ret
        exact ⟨ret_bool HQ.out.symm, hw⟩
      · have HQ : Hid (eqs s p[k] = false) := by show _ = _; simp [eqs, hq]
        have hq2 : (p[k] == s) = false := by simp [hq]
        go_wp2
        exact ⟨⟨k + 1, by omega, by go_num, by rw [HS.out, HT.out, HQ.out]; rfl, hb⟩, by simp [intOf]; omega⟩
    · have HE : Hid (p.any (eqs s) = false) := by have := HT.out; rwa [List.take_of_length_le (by omega)] at this
      go_wp2
      go_ret
      exact ⟨ret_bool HE.out.symm, hw⟩
set_option maxHeartbeats 1000000 in
theorem C_Index_str (w : World) (v : Value) (p : List (List UInt8)) (s : List UInt8) (h : (Ty.sl .str).rd w [v] p) (hs : s.length ≤ 9223372036854775807) :
    Calls Tryd.prog 55 #[v, vS s] w (RetIP w (ixf (eqs s) p)) := by
  obtain ⟨A, c, rfl, _, _, n0⟩ := Ty.rd_sl h
  go_enter Tryd.func55, Tryd.ntmps55
  go_wp2
  go_loopw [8] (fun i wr => ∃ k : Nat, k ≤ p.length ∧ i = .int .i64 k ∧ (p.take k).any (eqs s) = false ∧ wr = w) (fun i _ => p.length - (intOf i).toNat)
  case atStart => exact ⟨0, by omega, rfl, by first | rfl | simp, rfl⟩
  case round =>
    obtain ⟨k, hk, rfl, ht, rfl⟩ := hrel
    have HT := Lib.hid ht
    clear ht
    by_cases hlt : k < p.length
    · have HS := Lib.hid (any_take_succ (eqs s) p hlt)
      obtain ⟨b, o, ds, rfl, hl, hcell, hrd⟩ := Ty.rd_at h hlt
      obtain ⟨rfl, hsl⟩ := hrd
      have e0 := hcell 0 (by decide)
      simp [Ty.sz] at e0
      clear hcell hl
      by_cases hq : p[k] = s
      · have HQ := Lib.hid (ixf_hit (eqs s) p hlt HT.out (by simp [eqs, hq]))
        have hq2 : (s == p[k]) = true := by simp [hq]
        go_wp2
        go_ret
        exact ⟨ret_int HQ.out.symm, rfl⟩
      · have HQ : Hid (eqs s p[k] = false) := by show _ = _; simp [eqs, hq]
        have hq2 : (s == p[k]) = false := by simp [Ne.symm hq]
        go_wp2
        exact ⟨⟨k + 1, by omega, by go_num, by rw [HS.out, HT.out, HQ.out]; rfl, by first | rfl | trivial⟩, by simp [intOf]; omega⟩
    · have HE : Hid (p.any (eqs s) = false) := by have := HT.out; rwa [List.take_of_length_le (by omega)] at this
      go_wp2
      go_ret
      exact ⟨ret_int (ixf_miss (eqs s) p HE.out).symm, rfl⟩
end Go.Proofs.YtpjnidfdkggpfaaDoor
