/- Rings of keys are right: the walks. -/
import Derived.Test.YtamodpeeocmneaaKey
import Derived.Test.YtamodpeeocmneaaMac
import Derived.Deep.QuietTactic
import Derived.BigQuiet
import Derived.Test.YtamodpeeocmneaaStp
namespace Go.Proofs.Ytamodpeeocmneaa
open Go.RowKit
set_option linter.unusedVariables false
set_option linter.unusedSimpArgs false

def sameSecret (s : Int) (k : Ty.D tKey) : Bool := decide (k.2 = s)
def keyAt (x : List (Ty.D tKey)) (i : Nat) (k : Ty.D tKey) : Bool := validName k.1 && (decide (0 < k.1.length) && (inR k.2 1 2147483646 && (!(x.take i).any (sameName k.1) && !(x.take i).any (sameSecret k.2))))
def vkP (x : List (Ty.D tKey)) (i : Nat) : Bool := match x[i]? with | some k => keyAt x i k | none => true
theorem vkP_at {x : List (Ty.D tKey)} {i : Nat} (h : i < x.length) : vkP x i = keyAt x i x[i] := by unfold vkP; rw [List.getElem?_eq_getElem h]
def f_ValidKeys (x : List (Ty.D tKey)) : Bool := (List.range x.length).all (vkP x) && decide (x.length ≤ 8)
theorem rangeAll_succ (p : Nat → Bool) (k : Nat) : (List.range (k + 1)).all p = ((List.range k).all p && p k) := by rw [List.range_succ, List.all_append]; simp
theorem any_or2 {α : Type} (l : List α) (p q : α → Bool) (h : l.any (fun o => p o || q o) = false) : l.any p = false ∧ l.any q = false := by
  rw [List.any_eq_false] at h
  refine ⟨List.any_eq_false.2 fun a ha => ?_, List.any_eq_false.2 fun a ha => ?_⟩
  · have := h a ha; intro hp; rw [hp] at this; simp at this
  · have := h a ha; intro hp; rw [hp] at this; simp at this
/-- The first k elements of a slice. -/
theorem Ty.rd_take {w : World} {e : Ty} {A : Option Addr} {n c : Nat} {x : List e.D} (h : (Ty.sl e).rd w [.slice A n c] x) {k : Nat} (hk : k ≤ x.length) : (Ty.sl e).rd w [.slice A k c] (x.take k) := by
  obtain ⟨A', c', h1, h2, h3, h4, h5⟩ := h
  injection h1 with h1 _
  injection h1 with h1 hn1 h6
  subst h1; subst h6
  have hl : (x.take k).length = k := by rw [List.length_take]; omega
  have h2' : x.length ≤ c := h2
  have h4' : x.length ≤ 9223372036854775807 := h4
  refine ⟨A, c, by rw [show List.length (x.take k) = k from hl], by show (x.take k).length ≤ c; omega, h3, by show (x.take k).length ≤ _; omega, fun hn => ?_⟩
  have hn' : 0 < (x.take k).length := hn
  obtain ⟨b, o, hA, hc⟩ := h5 (by show 0 < x.length; omega)
  refine ⟨b, o, hA, fun i hi => ?_⟩
  have hi' : i < k := by have : i < (x.take k).length := hi; omega
  obtain ⟨ds, g1, g2, g3⟩ := hc i (by omega)
  exact ⟨ds, g1, g2, by rw [List.getElem_take]; exact g3⟩
end Go.Proofs.Ytamodpeeocmneaa
