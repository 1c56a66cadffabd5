/- Parts, names, patterns, rules are right: the walks. -/
import Derived.Test.YtpjnidfdkggpfaaNam
import Derived.Test.YtpjnidfdkggpfaaPure
import Derived.Deep.RegionHeld3
import Derived.Shelf.Abstract
namespace Go.Proofs.Ytpjnidfdkggpfaa
open Go.RowKit
set_option linter.unusedVariables false
set_option linter.unusedSimpArgs false

/-- A bool comes back and the world stays. -/
def RetBP (w : World) (b : Bool) (e : Ending) (w' : World) : Prop := e = .returned (.bool b) ∧ w' = w
def RetIP (w : World) (b : Int) (e : Ending) (w' : World) : Prop := e = .returned (.int .i64 b) ∧ w' = w
def inR (x a b : Int) : Bool := decide (a ≤ x) && decide (x ≤ b)
theorem okByte_iff (s : List UInt8) (k : Nat) (h : k < s.length) (c : Int) (hc : c = (s[k].toNat : Int)) : okByte s[k] = true ↔ (97 ≤ c ∧ c ≤ 122) ∨ (48 ≤ c ∧ c ≤ 57) ∨ c = 45 := by
  subst hc; unfold okByte; simp; omega
theorem okByte_no (s : List UInt8) (k : Nat) (h : k < s.length) (c : Int) (hc : c = (s[k].toNat : Int)) (hn : ¬ ((97 ≤ c ∧ c ≤ 122) ∨ (48 ≤ c ∧ c ≤ 57) ∨ c = 45)) : okByte s[k] = false := by
  cases hq : okByte s[k]
  · rfl
  · exact absurd ((okByte_iff s k h c hc).1 hq) hn
theorem bytes_at (s : List UInt8) (k : Nat) (h : k < s.length) (h2 : k < ({ data := s.toArray } : ByteArray).size) : ((({ data := s.toArray } : ByteArray)[k].toNat : Nat) : Int) = (s[k].toNat : Int) := rfl
/-- The first place that the test takes, or -1. -/
def ixf {α : Type} (p : α → Bool) (x : List α) : Int := match x.findIdx? p with | some k => (k : Int) | none => -1
theorem ixf_hit {α : Type} (p : α → Bool) (x : List α) {k : Nat} (h : k < x.length) (ht : (x.take k).any p = false) (hp : p x[k] = true) : ixf p x = k := by
  unfold ixf
  rw [List.findIdx?_eq_some_iff_getElem.2 ⟨h, hp, fun j hj => by
    have := List.any_eq_false.1 ht ((x.take k)[j]'(by rw [List.length_take]; omega)) (List.getElem_mem _)
    rw [List.getElem_take] at this; exact this⟩]
theorem ixf_miss {α : Type} (p : α → Bool) (x : List α) (ht : x.any p = false) : ixf p x = -1 := by
  unfold ixf
  rw [List.findIdx?_eq_none_iff.2 (fun a ha => by simpa using List.any_eq_false.1 ht a ha)]
theorem ixf_ge {α : Type} (p : α → Bool) (x : List α) : decide (ixf p x ≥ 0) = x.any p := by
  unfold ixf
  cases hq : x.findIdx? p with
  | none => rw [List.findIdx?_eq_none_iff] at hq; symm; simp; exact hq
  | some k => rw [List.findIdx?_eq_some_iff_getElem] at hq; obtain ⟨h, hp, _⟩ := hq; symm; simp; exact ⟨x[k], List.getElem_mem h, hp⟩
theorem ixf_lt {α : Type} (p : α → Bool) (x : List α) : ixf p x = -1 ∨ (0 ≤ ixf p x ∧ ixf p x < x.length) := by
  unfold ixf
  cases hq : x.findIdx? p with
  | none => exact .inl rfl
  | some k => rw [List.findIdx?_eq_some_iff_getElem] at hq; obtain ⟨h, hp, _⟩ := hq; right; simp; omega
/-- What is asked of a predicate that is handed over as a function value. -/
def Pred (P : Program) (g : Nat) (lb : Array Value) (w : World) {α : Type} (rd : World → List Value → α → Prop) (val : List Value → Value) (x : List α) (p : α → Bool) : Prop :=
  ∀ (W : World) (cs : List Value) (a : α), a ∈ x → Below w.heap.size w W → rd W cs a → Calls P g (#[val cs] ++ lb) W (RetB W (p a))
end Go.Proofs.Ytpjnidfdkggpfaa
