/- Texts parted at a byte; patterns and rules read out of texts, in the reference's way. No program in sight. -/
import Derived.Test.YtldgbnlcnlfmeaaPure
import Derived.Test.YtldgbnlcnlfmeaaHlp
import Derived.Test.YtldgbnlcnlfmeaaNb
namespace Go.Proofs.Ytldgbnlcnlfmeaa
open Go.RowKit
set_option linter.unusedVariables false
set_option linter.unusedSimpArgs false

/-- The pieces of a text between the bytes c. -/
def spl (c : UInt8) : List UInt8 → List (List UInt8)
  | [] => [[]]
  | b :: l => if b = c then [] :: spl c l else match spl c l with
    | h :: t => (b :: h) :: t
    | [] => [[b]]
theorem spl_ne (c : UInt8) (l : List UInt8) : spl c l ≠ [] := by
  cases l with
  | nil => simp [spl]
  | cons b l => unfold spl; split; · simp
                split <;> simp
theorem spl_pos (c : UInt8) (s : List UInt8) : 0 < (spl c s).length := List.length_pos_iff.2 (spl_ne c s)
theorem spl_notin {c : UInt8} : ∀ {a : List UInt8}, c ∉ a → spl c a = [a]
  | [], _ => rfl
  | b :: a, h => by
    have h1 : b ≠ c := fun e => h (by simp [e])
    have h2 : c ∉ a := fun e => h (by simp [e])
    unfold spl; rw [if_neg h1, spl_notin h2]
theorem spl_app {c : UInt8} (r : List UInt8) : ∀ {a : List UInt8}, c ∉ a → spl c (a ++ c :: r) = a :: spl c r
  | [], _ => by show spl c (c :: r) = _; rw [spl]; simp
  | b :: a, h => by
    have h1 : b ≠ c := fun e => h (by simp [e])
    have h2 : c ∉ a := fun e => h (by simp [e])
    show spl c (b :: (a ++ c :: r)) = _
    rw [spl, if_neg h1, spl_app r h2]
theorem spl_parts (c : UInt8) : ∀ (l : List UInt8), ∀ a ∈ spl c l, c ∉ a
  | [], a, h => by simp [spl] at h; subst h; simp
  | b :: l, a, h => by
    unfold spl at h
    split at h
    · rcases List.mem_cons.1 h with rfl | h
      · simp
      · exact spl_parts c l a h
    · rename_i hb
      have ih := spl_parts c l
      split at h
      · rename_i x t hx
        rw [hx] at ih
        rcases List.mem_cons.1 h with rfl | h
        · intro hc
          rcases List.mem_cons.1 hc with rfl | hc
          · exact hb rfl
          · exact ih x (by simp) hc
        · exact ih a (by simp [h])
      · rename_i hx; exact absurd hx (spl_ne c l)
theorem spl_join (c : UInt8) : ∀ l : List UInt8, ((spl c l).map (fun s => c :: s)).flatten = c :: l
  | [] => by simp [spl]
  | b :: l => by
    have ih := spl_join c l
    unfold spl
    split
    · rename_i hb; subst hb; simp [ih]
    · split
      · rename_i x t hx
        rw [hx] at ih
        simp only [List.map_cons, List.flatten_cons, List.cons_append, List.cons.injEq, true_and] at ih ⊢
        rw [ih]
      · rename_i hx; exact absurd hx (spl_ne c l)
theorem spl_head (c b : UInt8) (l : List UInt8) (h : b ≠ c) : ∃ x t, spl c (b :: l) = (b :: x) :: t := by
  unfold spl
  rw [if_neg h]
  split
  · exact ⟨_, _, rfl⟩
  · exact ⟨[], [], rfl⟩
theorem spl_self (c : UInt8) (l : List UInt8) : spl c (c :: l) = [] :: spl c l := by rw [spl]; simp
theorem validPat_part {p : List (List UInt8)} (h : validPat p = true) : p.length ≤ 6 ∧ ∀ s ∈ p, s.length ≤ 8 ∧ (32 : UInt8) ∉ s := by
  unfold validPat at h
  simp only [Bool.and_eq_true, List.all_eq_true, List.mem_range, decide_eq_true_eq] at h
  refine ⟨h.2, fun s hs => ?_⟩
  obtain ⟨k, hk, rfl⟩ := List.getElem_of_mem hs
  have h2 := h.1 k hk
  rw [show p.getD k [] = p[k] by simp [List.getD, hk]] at h2
  generalize p[k] = s at h2
  unfold patPart at h2
  simp only [Bool.or_eq_true, Bool.and_eq_true, decide_eq_true_eq] at h2
  rcases h2 with ((h2 | h2) | h2) | h2
  · unfold validPart at h2
    simp only [Bool.and_eq_true, decide_eq_true_eq, List.all_eq_true] at h2
    exact ⟨h2.2.2, fun hm => absurd (h2.1 32 hm) (by decide)⟩
  · subst h2; decide
  · unfold isVar at h2
    split at h2
    · rename_i a c
      simp only [Bool.and_eq_true, decide_eq_true_eq] at h2
      refine ⟨by simp, fun hm => ?_⟩
      simp only [List.mem_cons, List.not_mem_nil, or_false] at hm
      rcases hm with e | e
      · rw [h2.1] at e; exact absurd e (by decide)
      · subst e; exact absurd h2.2.1 (by decide)
    · cases h2
  · rw [h2.1]; decide
theorem validPat_bulk {p : List (List UInt8)} (h : validPat p = true) : Ty.bulk (.sl .str) p ≤ 60 := by
  obtain ⟨h1, h2⟩ := validPat_part h
  have : ∀ q : List (List UInt8), (∀ s ∈ q, s.length ≤ 8 ∧ (32 : UInt8) ∉ s) → Ty.bulk (.sl .str) q ≤ 9 * q.length := by
    intro q
    induction q with
    | nil => intro _; exact Nat.le_refl _
    | cons a q ih =>
      intro hq
      have e : Ty.bulk (.sl .str) (a :: q) = Ty.bulk (.sl .str) [a] + Ty.bulk (.sl .str) q := bulk_app (e := .str) [a] q
      have e2 : Ty.bulk (.sl .str) [a] = Ty.bulk .str a + 1 := bulk_one (e := .str) a
      have e3 : Ty.bulk .str a = a.length := rfl
      have := (hq a (by simp)).1
      have := ih (fun s hs => hq s (by simp [hs]))
      rw [e, e2, e3, List.length_cons]; omega
  have := this p h2
  omega
def ppS (s : List UInt8) : List (List UInt8) × Bool :=
  if s = [47] then ([], true) else if decide (2 ≤ (spl 47 s).length) && decide ((spl 47 s).head? = some []) && validPat (spl 47 s).tail then ((spl 47 s).tail, true) else ([], false)
theorem ppS_ok {s : List UInt8} : validPat (ppS s).1 = true := by
  unfold ppS
  split
  · rfl
  · split
    · rename_i h
      simp only [Bool.and_eq_true] at h
      exact h.2
    · rfl
theorem ppS_bulk (s : List UInt8) : Ty.bulk (.sl .str) (ppS s).1 ≤ 60 := validPat_bulk ppS_ok
def ruleOf (a b : List (List UInt8) × Bool) : tRule.D := (a.1, b.1)
def prS (s : List UInt8) : tRule.D × Bool :=
  if (spl 32 s).length = 3 ∧ (spl 32 s)[1]? = some [60] then
    (if (ppS ((spl 32 s).getD 0 [])).2 && (ppS ((spl 32 s).getD 2 [])).2 && validRule (ruleOf (ppS ((spl 32 s).getD 0 [])) (ppS ((spl 32 s).getD 2 []))) then (ruleOf (ppS ((spl 32 s).getD 0 [])) (ppS ((spl 32 s).getD 2 [])), true) else (([], []), false))
  else (([], []), false)
/-- A name read out of a text. -/
def pnS (s : List UInt8) : List (List UInt8) × Bool :=
  if s = [47] then ([], true) else if decide (2 ≤ (spl 47 s).length) && decide ((spl 47 s).head? = some []) && validName (spl 47 s).tail then ((spl 47 s).tail, true) else ([], false)
theorem pnS_one {s : List UInt8} (h : s = [47]) : pnS s = ([], true) := by unfold pnS; rw [if_pos h]
theorem pnS_no {s : List UInt8} (h : ¬ s = [47]) (h2 : (decide (2 ≤ (spl 47 s).length) && decide ((spl 47 s).head? = some []) && validName (spl 47 s).tail) = false) : pnS s = ([], false) := by unfold pnS; rw [if_neg h, h2]; rfl
theorem pnS_yes {s : List UInt8} (h : ¬ s = [47]) (h2 : (decide (2 ≤ (spl 47 s).length) && decide ((spl 47 s).head? = some []) && validName (spl 47 s).tail) = true) : pnS s = ((spl 47 s).tail, true) := by unfold pnS; rw [if_neg h, if_pos h2]
theorem pnS_ok {s : List UInt8} : validName (pnS s).1 = true := by
  unfold pnS
  split
  · rfl
  · split
    · rename_i h
      simp only [Bool.and_eq_true] at h
      exact h.2
    · rfl
end Go.Proofs.Ytldgbnlcnlfmeaa
