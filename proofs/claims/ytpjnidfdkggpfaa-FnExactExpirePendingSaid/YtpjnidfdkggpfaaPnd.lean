/- Pending interests: the walks. -/
import Derived.Test.YtpjnidfdkggpfaaVal
import Derived.Test.YtpjnidfdkggpfaaDat
namespace Go.Proofs.Ytpjnidfdkggpfaa
open Go.RowKit
set_option linter.unusedVariables false
set_option linter.unusedSimpArgs false

def sameP (n : List (List UInt8)) (k : Ty.D tPendingInterest) : Bool := decide (k.1 = n)
theorem find_ixf2 {α : Type} (p : α → Bool) (x : List α) : (ixf p x = -1 ∧ x.find? p = none) ∨ ∃ (k : Nat) (h : k < x.length), ixf p x = k ∧ x.find? p = some x[k] := by
  unfold ixf
  cases hq : x.findIdx? p with
  | none => left; exact ⟨rfl, by rw [List.findIdx?_eq_none_iff] at hq; rw [List.find?_eq_none]; simpa using hq⟩
  | some k =>
    right
    rw [List.findIdx?_eq_some_iff_getElem] at hq
    obtain ⟨h, hp, hj⟩ := hq
    exact ⟨k, h, rfl, by rw [List.find?_eq_some_iff_getElem]; exact ⟨hp, k, h, rfl, fun j hj' => by simpa using hj j hj'⟩⟩
def f_HasPending (x : List (Ty.D tPendingInterest)) (n : List (List UInt8)) : Bool := x.any (sameP n)
def f_LastSentAt (x : List (Ty.D tPendingInterest)) (n : List (List UInt8)) : Int := match x.find? (sameP n) with | some k => k.2.2 | none => 0
end Go.Proofs.Ytpjnidfdkggpfaa
