/- Texts parted at a byte; patterns and rules parsed: the two ways agree. No program in sight. -/
import Derived.Test.YtpjnidfdkggpfaaDoorFru
import Derived.Test.YtpjnidfdkggpfaaDoorPure
import Derived.Lib.SplitLaws
import Derived.Lib.CutLaws
namespace Go.Proofs.YtpjnidfdkggpfaaDoor
open Go.RowKit
set_option linter.unusedVariables false
set_option linter.unusedSimpArgs false

/-- The pieces of a text between the bytes c. -/
def spl (c : UInt8) : List UInt8 → List (List UInt8)
  | [] => [[]]
  | b :: l => if b = c then [] :: spl c l else match spl c l with
    | h :: t => (b :: h) :: t
    | [] => [[b]]
theorem spl_ne (c : UInt8) (l : List UInt8) : spl c l ≠ [] := by
  cases l with
  | nil => simp [spl]
  | cons b l => unfold spl; split; · simp
                split <;> simp
theorem spl_notin {c : UInt8} : ∀ {a : List UInt8}, c ∉ a → spl c a = [a]
  | [], _ => rfl
  | b :: a, h => by
    have h1 : b ≠ c := fun e => h (by simp [e])
    have h2 : c ∉ a := fun e => h (by simp [e])
    unfold spl; rw [if_neg h1, spl_notin h2]
theorem spl_app {c : UInt8} (r : List UInt8) : ∀ {a : List UInt8}, c ∉ a → spl c (a ++ c :: r) = a :: spl c r
  | [], _ => by show spl c (c :: r) = _; rw [spl]; simp
  | b :: a, h => by
    have h1 : b ≠ c := fun e => h (by simp [e])
    have h2 : c ∉ a := fun e => h (by simp [e])
    show spl c (b :: (a ++ c :: r)) = _
    rw [spl, if_neg h1, spl_app r h2]
theorem spl_parts (c : UInt8) : ∀ (l : List UInt8), ∀ a ∈ spl c l, c ∉ a
  | [], a, h => by simp [spl] at h; subst h; simp
  | b :: l, a, h => by
    unfold spl at h
    split at h
    · rcases List.mem_cons.1 h with rfl | h
      · simp
      · exact spl_parts c l a h
    · rename_i hb
      have ih := spl_parts c l
      split at h
      · rename_i x t hx
        rw [hx] at ih
        rcases List.mem_cons.1 h with rfl | h
        · intro hc
          rcases List.mem_cons.1 hc with rfl | hc
          · exact hb rfl
          · exact ih x (by simp) hc
        · exact ih a (by simp [h])
      · rename_i hx; exact absurd hx (spl_ne c l)
theorem spl_join (c : UInt8) : ∀ l : List UInt8, ((spl c l).map (fun s => c :: s)).flatten = c :: l
  | [] => by simp [spl]
  | b :: l => by
    have ih := spl_join c l
    unfold spl
    split
    · rename_i hb; subst hb; simp [ih]
    · split
      · rename_i x t hx
        rw [hx] at ih
        simp only [List.map_cons, List.flatten_cons, List.cons_append, List.cons.injEq, true_and] at ih ⊢
        rw [ih]
      · rename_i hx; exact absurd hx (spl_ne c l)
theorem spl_head (c b : UInt8) (l : List UInt8) (h : b ≠ c) : ∃ x t, spl c (b :: l) = (b :: x) :: t := by
  unfold spl
  rw [if_neg h]
  split
  · exact ⟨_, _, rfl⟩
  · exact ⟨[], [], rfl⟩
theorem spl_self (c : UInt8) (l : List UInt8) : spl c (c :: l) = [] :: spl c l := by rw [spl]; simp
theorem index_notin {c : UInt8} : ∀ {a : List UInt8}, Lib.index a [c] = -1 → c ∉ a
  | [], _ => by simp
  | b :: a, h => by
    unfold Lib.index at h
    split at h
    · cases h
    · rename_i hp
      have hbc : ¬ c = b := by intro e; apply hp; simp [List.isPrefixOf, e]
      split at h
      · rename_i h2
        have := index_notin (beq_iff_eq.1 h2)
        simp only [List.mem_cons, not_or]
        exact ⟨hbc, this⟩
      · have := Lib.index_ge a [c]
        rename_i h2
        have h3 : Lib.index a [c] ≠ -1 := by simpa using h2
        omega
theorem index_at {c : UInt8} : ∀ {a : List UInt8} {i : Nat}, Lib.index a [c] = i → ∃ p r, a = p ++ c :: r ∧ p.length = i ∧ c ∉ p
  | [], i, h => by simp [Lib.index] at h
  | b :: a, i, h => by
    unfold Lib.index at h
    split at h
    · rename_i hp
      have hbc : c = b := by simpa [List.isPrefixOf] using hp
      have : i = 0 := by omega
      subst this; subst hbc
      exact ⟨[], a, rfl, rfl, by simp⟩
    · rename_i hp
      have hbc : ¬ c = b := by intro e; apply hp; simp [List.isPrefixOf, e]
      split at h
      · omega
      · rename_i h2
        have h3 : Lib.index a [c] ≠ -1 := by simpa using h2
        have h4 := Lib.index_ge a [c]
        obtain ⟨p, r, e, hl, hn⟩ := index_at (c := c) (a := a) (i := i - 1) (by omega)
        refine ⟨b :: p, r, by simp [e], ?_, ?_⟩
        · simp [hl]; omega
        · simp [hbc, hn]
theorem index_here (c : UInt8) (r : List UInt8) : ∀ {p : List UInt8}, c ∉ p → Lib.index (p ++ c :: r) [c] = p.length
  | [], _ => by show Lib.index (c :: r) [c] = _; rw [Lib.index]; simp [List.isPrefixOf]
  | b :: p, h => by
    have h1 : ¬ c = b := fun e => h (by simp [e])
    have h2 : c ∉ p := fun e => h (by simp [e])
    show Lib.index (b :: (p ++ c :: r)) [c] = _
    rw [Lib.index, index_here c r h2]
    have h3 : ([c] : List UInt8).isPrefixOf (b :: (p ++ c :: r)) = false := by simp [List.isPrefixOf, h1]
    rw [h3]
    simp only [Bool.false_eq_true, if_false, List.length_cons]
    rw [if_neg (by simp <;> omega)]
    omega
theorem splitB_spl (c : UInt8) : ∀ (n : Nat) (s : List UInt8), s.length ≤ n → (Lib.splitB ⟨#[c]⟩ 0 (Lib.countB ⟨s.toArray⟩ ⟨#[c]⟩) ⟨s.toArray⟩).map (fun b => b.data.toList) = spl c s := by
  intro n
  induction n with
  | zero =>
    intro s h
    obtain rfl : s = [] := List.length_eq_zero_iff.1 (by omega)
    rfl
  | succ n ih =>
    intro s h
    have hcnt : Lib.countB ⟨s.toArray⟩ ⟨#[c]⟩ = Lib.count s [c] := rfl
    rcases Lib.indexB_cases ⟨s.toArray⟩ ⟨#[c]⟩ with hix | ⟨i, hix, hroom⟩
    · rw [Lib.splitB_miss _ _ _ _ hix]
      have : Lib.index s [c] = -1 := hix
      rw [spl_notin (index_notin this)]
      rfl
    · have h1 : Lib.index s [c] = i := hix
      obtain ⟨p, r, rfl, hl, hn⟩ := index_at h1
      have e1 : Lib.count (p ++ c :: r) [c] = Lib.count r [c] + 1 := by
        rw [Lib.count_one, Lib.count_one, List.count_append, List.count_eq_zero_of_not_mem hn]; simp
      rw [hcnt, e1]
      unfold Lib.splitB
      rw [hix]
      rw [if_neg (by simp <;> omega)]
      rw [List.map_cons]
      have e2 : ((⟨(p ++ c :: r).toArray⟩ : ByteArray).extract 0 (((i : Nat) : Int).toNat + 0)).data.toList = p := by
        have : ((i : Nat) : Int).toNat + 0 = p.length := by omega
        rw [this]; simp [ByteArray.data_extract]
      have e3 : (⟨(p ++ c :: r).toArray⟩ : ByteArray).extract (((i : Nat) : Int).toNat + (⟨#[c]⟩ : ByteArray).size) (⟨(p ++ c :: r).toArray⟩ : ByteArray).size = ⟨r.toArray⟩ := by
        have e4 : ((i : Nat) : Int).toNat + (⟨#[c]⟩ : ByteArray).size = p.length + 1 := by
          show ((i : Nat) : Int).toNat + 1 = _; omega
        rw [e4]
        apply ByteArray.ext
        have e5 : (⟨(p ++ c :: r).toArray⟩ : ByteArray).size = p.length + (r.length + 1) := by show (p ++ c :: r).toArray.size = _; simp
        rw [e5]
        simp [ByteArray.data_extract]
        rw [List.take_of_length_le (by omega)]
      rw [e2, e3, ih r (by simp at h; omega), spl_app r hn]

/-! ### patterns -/
def partsIn (s : List UInt8) : List (List UInt8) := if s = [] ∨ s = [47] then [] else spl 47 s.tail
def ppI (s : List UInt8) : List (List UInt8) × Bool := if validPat (partsIn s) && decide (fmtP (partsIn s) = s) then (partsIn s, true) else ([], false)
def ppS (s : List UInt8) : List (List UInt8) × Bool :=
  if s = [47] then ([], true) else if decide (2 ≤ (spl 47 s).length) && decide ((spl 47 s).head? = some []) && validPat (spl 47 s).tail then ((spl 47 s).tail, true) else ([], false)
theorem fmtP_spl (t : List UInt8) : fmtP (spl 47 t) = 47 :: t := by
  unfold fmtP
  rw [if_neg (spl_ne _ _)]
  unfold fmtK
  rw [List.take_of_length_le (Nat.le_refl _)]
  exact spl_join 47 t
theorem pp_eq (s : List UInt8) : ppS s = ppI s := by
  unfold ppS ppI
  by_cases h1 : s = [47]
  · subst h1; rfl
  rw [if_neg h1]
  cases s with
  | nil => rfl
  | cons c t =>
    have hp : partsIn (c :: t) = spl 47 t := by unfold partsIn; rw [if_neg (by simp [h1])]; rfl
    rw [hp, fmtP_spl]
    by_cases hc : c = 47
    · subst hc
      rw [spl_self]
      have : decide (2 ≤ ([] :: spl 47 t).length) = true := by
        have : 0 < (spl 47 t).length := List.length_pos_iff.2 (spl_ne _ _)
        simp; omega
      rw [this]; simp
    · obtain ⟨x, r, e⟩ := spl_head 47 c t hc
      rw [e]
      have : ¬ (47 : UInt8) = c := fun h => hc h.symm
      simp [this]
theorem ppI_cases (s : List UInt8) : ppI s = ([], false) ∨ (ppI s = (partsIn s, true) ∧ validPat (partsIn s) = true ∧ fmtP (partsIn s) = s) := by
  unfold ppI
  split
  · rename_i h
    simp only [Bool.and_eq_true, decide_eq_true_eq] at h
    exact Or.inr ⟨rfl, h.1, h.2⟩
  · exact Or.inl rfl
theorem validPat_part {p : List (List UInt8)} (h : validPat p = true) : p.length ≤ 6 ∧ ∀ s ∈ p, s.length ≤ 8 ∧ (32 : UInt8) ∉ s := by
  unfold validPat at h
  simp only [Bool.and_eq_true, List.all_eq_true, List.mem_range, decide_eq_true_eq] at h
  refine ⟨h.2, fun s hs => ?_⟩
  obtain ⟨k, hk, rfl⟩ := List.getElem_of_mem hs
  have h2 := h.1 k hk
  rw [show p.getD k [] = p[k] by simp [List.getD, hk]] at h2
  generalize p[k] = s at h2
  unfold patPart at h2
  simp only [Bool.or_eq_true, Bool.and_eq_true, decide_eq_true_eq] at h2
  rcases h2 with ((h2 | h2) | h2) | h2
  · unfold validPart at h2
    simp only [Bool.and_eq_true, decide_eq_true_eq, List.all_eq_true] at h2
    exact ⟨h2.2.2, fun hm => absurd (h2.1 32 hm) (by decide)⟩
  · subst h2; decide
  · unfold isVar at h2
    split at h2
    · rename_i a c
      simp only [Bool.and_eq_true, decide_eq_true_eq] at h2
      refine ⟨by simp, fun hm => ?_⟩
      simp only [List.mem_cons, List.not_mem_nil, or_false] at hm
      rcases hm with e | e
      · rw [h2.1] at e; exact absurd e (by decide)
      · subst e; exact absurd h2.2.1 (by decide)
    · cases h2
  · rw [h2.1]; decide
theorem validPat_bulk {p : List (List UInt8)} (h : validPat p = true) : Ty.bulk (.sl .str) p ≤ 60 := by
  obtain ⟨h1, h2⟩ := validPat_part h
  have : ∀ q : List (List UInt8), (∀ s ∈ q, s.length ≤ 8 ∧ (32 : UInt8) ∉ s) → Ty.bulk (.sl .str) q ≤ 9 * q.length := by
    intro q
    induction q with
    | nil => intro _; exact Nat.le_refl _
    | cons a q ih =>
      intro hq
      have e : Ty.bulk (.sl .str) (a :: q) = Ty.bulk (.sl .str) [a] + Ty.bulk (.sl .str) q := bulk_app (e := .str) [a] q
      have e2 : Ty.bulk (.sl .str) [a] = Ty.bulk .str a + 1 := bulk_one (e := .str) a
      have e3 : Ty.bulk .str a = a.length := rfl
      have := (hq a (by simp)).1
      have := ih (fun s hs => hq s (by simp [hs]))
      rw [e, e2, e3, List.length_cons]; omega
  have := this p h2
  omega
theorem validPat_nil : validPat [] = true := rfl
theorem fmtP_nosp {p : List (List UInt8)} (h : validPat p = true) : (32 : UInt8) ∉ fmtP p := by
  unfold fmtP
  split
  · decide
  · unfold fmtK
    intro hm
    obtain ⟨l, hl, hm⟩ := List.mem_flatten.1 hm
    obtain ⟨s, hs, rfl⟩ := List.mem_map.1 hl
    rcases List.mem_cons.1 hm with e | e
    · exact absurd e (by decide)
    · exact ((validPat_part h).2 s (List.mem_of_mem_take hs)).2 e

/-! ### rules -/
def ruleOf (a b : List (List UInt8) × Bool) : tRule.D := (a.1, b.1)
def prI (s : List UInt8) : tRule.D × Bool :=
  if (ppI (Lib.cut s [32, 60, 32]).1).2 && (ppI (Lib.cut s [32, 60, 32]).2.1).2 && validRule (ruleOf (ppI (Lib.cut s [32, 60, 32]).1) (ppI (Lib.cut s [32, 60, 32]).2.1)) && decide (f_FormatRule (ruleOf (ppI (Lib.cut s [32, 60, 32]).1) (ppI (Lib.cut s [32, 60, 32]).2.1)) = s)
  then (ruleOf (ppI (Lib.cut s [32, 60, 32]).1) (ppI (Lib.cut s [32, 60, 32]).2.1), true) else (([], []), false)
def prS (s : List UInt8) : tRule.D × Bool :=
  if (spl 32 s).length = 3 ∧ (spl 32 s)[1]? = some [60] then
    (if (ppI ((spl 32 s).getD 0 [])).2 && (ppI ((spl 32 s).getD 2 [])).2 && validRule (ruleOf (ppI ((spl 32 s).getD 0 [])) (ppI ((spl 32 s).getD 2 []))) then (ruleOf (ppI ((spl 32 s).getD 0 [])) (ppI ((spl 32 s).getD 2 [])), true) else (([], []), false))
  else (([], []), false)
theorem cut_rule {a b : List UInt8} (ha : (32 : UInt8) ∉ a) : Lib.cut (a ++ [32, 60, 32] ++ b) [32, 60, 32] = (a, b, true) := by
  have : Lib.index (a ++ [32, 60, 32] ++ b) [32, 60, 32] = a.length := by
    induction a with
    | nil => show Lib.index (32 :: 60 :: 32 :: b) [32, 60, 32] = _; rw [Lib.index]; simp [List.isPrefixOf]
    | cons x a ih =>
      have h1 : ¬ (32 : UInt8) = x := fun e => ha (by simp [e])
      have h2 : (32 : UInt8) ∉ a := fun e => ha (by simp [e])
      show Lib.index (x :: (a ++ [32, 60, 32] ++ b)) [32, 60, 32] = _
      rw [Lib.index, ih h2]
      have h3 : ([32, 60, 32] : List UInt8).isPrefixOf (x :: (a ++ [32, 60, 32] ++ b)) = false := by simp [List.isPrefixOf, h1]
      rw [h3]
      simp only [Bool.false_eq_true, if_false, List.length_cons]
      rw [if_neg (by simp <;> omega)]
      omega
  unfold Lib.cut
  rw [this]
  simp
theorem ppI_ok {s : List UInt8} (h : (ppI s).2 = true) : validPat (ppI s).1 = true ∧ fmtP (ppI s).1 = s ∧ (32 : UInt8) ∉ s := by
  rcases ppI_cases s with e | ⟨e, h1, h2⟩
  · rw [e] at h; cases h
  · rw [e]
    exact ⟨h1, h2, by rw [← h2]; exact fmtP_nosp h1⟩
theorem spl_rule {a b : List UInt8} (ha : (32 : UInt8) ∉ a) (hb : (32 : UInt8) ∉ b) : spl 32 (a ++ [32, 60, 32] ++ b) = [a, [60], b] := by
  rw [List.append_assoc]
  show spl 32 (a ++ 32 :: ([60] ++ 32 :: b)) = _
  rw [spl_app _ ha, spl_app _ (by decide), spl_notin hb]
theorem three {l : List (List UInt8)} {m : List UInt8} (h : l.length = 3 ∧ l[1]? = some m) : ∃ a b, l = [a, m, b] := by
  obtain ⟨h1, h2⟩ := h
  match l, h1 with
  | [a, x, b], _ => simp at h2; subst h2; exact ⟨a, b, rfl⟩
theorem pr_eq (s : List UInt8) : prS s = prI s := by
  unfold prS
  by_cases h : (spl 32 s).length = 3 ∧ (spl 32 s)[1]? = some [60]
  · rw [if_pos h]
    obtain ⟨a, b, e⟩ := three h
    have hj := spl_join 32 s
    have hp := spl_parts 32 s
    rw [e] at hj hp ⊢
    have hs : s = a ++ [32, 60, 32] ++ b := by
      simp at hj; simp [hj]
    have ha : (32 : UInt8) ∉ a := hp a (by simp)
    have hb : (32 : UInt8) ∉ b := hp b (by simp)
    clear e hj hp h
    subst hs
    unfold prI
    rw [cut_rule ha]
    show (if _ then _ else _) = _
    simp only [List.getD_cons_zero, List.getD_cons_succ]
    by_cases h1 : (ppI a).2 = true
    · by_cases h2 : (ppI b).2 = true
      · obtain ⟨a1, a2, a3⟩ := ppI_ok h1
        obtain ⟨b1, b2, b3⟩ := ppI_ok h2
        have : f_FormatRule (ruleOf (ppI a) (ppI b)) = a ++ [32, 60, 32] ++ b := by
          show (fmtP (ppI a).1 ++ [32, 60, 32]) ++ fmtP (ppI b).1 = _
          rw [a2, b2]
        rw [this]; simp
      · simp [h2]
    · simp [h1]
  · rw [if_neg h]
    unfold prI
    rw [if_neg]
    intro hh
    simp only [Bool.and_eq_true, decide_eq_true_eq] at hh
    obtain ⟨⟨⟨h1, h2⟩, _⟩, h4⟩ := hh
    obtain ⟨a1, a2, a3⟩ := ppI_ok h1
    obtain ⟨b1, b2, b3⟩ := ppI_ok h2
    generalize (Lib.cut s [32, 60, 32]).1 = d at *
    generalize (Lib.cut s [32, 60, 32]).2.1 = k at *
    have h5 : (fmtP (ppI d).1 ++ [32, 60, 32]) ++ fmtP (ppI k).1 = s := h4
    rw [a2, b2] at h5
    subst h5
    rw [spl_rule a3 b3] at h
    exact h ⟨rfl, rfl⟩
end Go.Proofs.YtpjnidfdkggpfaaDoor
