/- Data and keys: the walks. Printed by gen4.py. -/
import Derived.Test.YtpjnidfdkggpfaaDoorVal
import Derived.Test.YtpjnidfdkggpfaaDoorDat
namespace Go.Proofs.YtpjnidfdkggpfaaDoor
open Go.RowKit
set_option linter.unusedVariables false
set_option linter.unusedSimpArgs false

def f_ValidData (x : tData.D) : Bool := validName x.1 && (decide (0 < x.1.length) && (decide (x.2.1.length ≤ 60) && (validName x.2.2.1 && (inR x.2.2.2.1 0 100000 && inR x.2.2.2.2 0 2147483646))))
def sameName (n : List (List UInt8)) (k : Ty.D tKey) : Bool := decide (k.1 = n)
def f_SecretOf (x : List (Ty.D tKey)) (n : List (List UInt8)) : Int := match x.find? (sameName n) with | some k => k.2 | none => 0
theorem find_hit {α : Type} (p : α → Bool) (x : List α) {k : Nat} (h : k < x.length) (ht : (x.take k).any p = false) (hp : p x[k] = true) : x.find? p = some x[k] := by
  rw [List.find?_eq_some_iff_getElem]
  exact ⟨hp, k, h, rfl, fun j hj => by
    have := List.any_eq_false.1 ht ((x.take k)[j]'(by rw [List.length_take]; omega)) (List.getElem_mem _)
    rw [List.getElem_take] at this; simpa using this⟩
theorem find_miss {α : Type} (p : α → Bool) (x : List α) (ht : x.any p = false) : x.find? p = none := by
  rw [List.find?_eq_none]; exact fun a ha => by simpa using List.any_eq_false.1 ht a ha
theorem find_ixf {α : Type} (p : α → Bool) (x : List α) : (ixf p x = -1 ∧ x.find? p = none) ∨ ∃ (k : Nat) (h : k < x.length), ixf p x = k ∧ x.find? p = some x[k] := by
  unfold ixf
  cases hq : x.findIdx? p with
  | none => left; exact ⟨rfl, by rw [List.findIdx?_eq_none_iff] at hq; rw [List.find?_eq_none]; simpa using hq⟩
  | some k =>
    right
    rw [List.findIdx?_eq_some_iff_getElem] at hq
    obtain ⟨h, hp, hj⟩ := hq
    exact ⟨k, h, rfl, by rw [List.find?_eq_some_iff_getElem]; exact ⟨hp, k, h, rfl, fun j hj' => by simpa using hj j hj'⟩⟩
end Go.Proofs.YtpjnidfdkggpfaaDoor
