/- Plain functions on data, and laws of theirs. No program in sight. -/
import Derived.Test.YtldgbnlcnlfmeaaBase
namespace Go.Proofs.Ytldgbnlcnlfmeaa
set_option linter.unusedVariables false
set_option linter.unusedSimpArgs false

/-- Lower-case letters, digits, the dash. -/
def okByte (c : UInt8) : Bool := (decide (97 ≤ c.toNat) && decide (c.toNat ≤ 122)) || (decide (48 ≤ c.toNat) && decide (c.toNat ≤ 57)) || decide (c.toNat = 45)
def validPart (s : List UInt8) : Bool := s.all okByte && (decide (1 ≤ s.length) && decide (s.length ≤ 8))
def isVar : List UInt8 → Bool
  | [a, c] => decide (a = 63) && (decide (97 ≤ c.toNat) && decide (c.toNat ≤ 122))
  | _ => false
def validName (n : List (List UInt8)) : Bool := n.all validPart && decide (n.length ≤ 6)
/-- The i-th part of a pattern is right. -/
def patPart (n i : Nat) (s : List UInt8) : Bool := validPart s || decide (s = [42]) || isVar s || (decide (s = [42, 42]) && decide (i + 1 = n))
def validPat (p : List (List UInt8)) : Bool := (List.range p.length).all (fun i => patPart p.length i (p.getD i [])) && decide (p.length ≤ 6)
def validRule (r : List (List UInt8) × List (List UInt8)) : Bool := validPat r.1 && validPat r.2 && r.2.all (fun s => !isVar s || r.1.contains s)
def validRules (l : List (List (List UInt8) × List (List UInt8))) : Bool := l.all validRule && decide (l.length ≤ 8)

/-- 'all' up to k, and one step more. -/
theorem all_take_succ {α : Type} (p : α → Bool) (l : List α) {k : Nat} (h : k < l.length) : (l.take (k + 1)).all p = ((l.take k).all p && p l[k]) := by
  rw [List.take_succ_eq_append_getElem h, List.all_append]; simp
theorem all_take_all {α : Type} (p : α → Bool) (l : List α) {k : Nat} (h : l.length ≤ k) : (l.take k).all p = l.all p := by rw [List.take_of_length_le h]
theorem all_false_of {α : Type} (p : α → Bool) (l : List α) {k : Nat} (h : k < l.length) (hp : p l[k] = false) : l.all p = false := by
  rw [List.all_eq_false]; exact ⟨l[k], List.getElem_mem h, by simp [hp]⟩
theorem any_take_succ {α : Type} (p : α → Bool) (l : List α) {k : Nat} (h : k < l.length) : (l.take (k + 1)).any p = ((l.take k).any p || p l[k]) := by
  rw [List.take_succ_eq_append_getElem h, List.any_append]; simp
theorem any_take_all {α : Type} (p : α → Bool) (l : List α) {k : Nat} (h : l.length ≤ k) : (l.take k).any p = l.any p := by rw [List.take_of_length_le h]
theorem any_true_of {α : Type} (p : α → Bool) (l : List α) {k : Nat} (h : k < l.length) (hp : p l[k] = true) : l.any p = true := by
  rw [List.any_eq_true]; exact ⟨l[k], List.getElem_mem h, hp⟩
theorem rangeAll_of {n : Nat} {p : Nat → Bool} (h : ∀ j, j < n → p j = true) : (List.range n).all p = true := by
  rw [List.all_eq_true]; exact fun x hx => h x (List.mem_range.1 hx)
theorem rangeAll_not {n k : Nat} {p : Nat → Bool} (hk : k < n) (h : p k = false) : (List.range n).all p = false := by
  rw [List.all_eq_false]; exact ⟨k, List.mem_range.2 hk, by simp [h]⟩
end Go.Proofs.Ytldgbnlcnlfmeaa
