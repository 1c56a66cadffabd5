/- Texts of this claim, merged by a program: Spl Ctx Prs Prl Mat. -/
import Derived.Test.YtidnahocnhcoiaaGreatDoorQrP
import Derived.Test.YtidnahocnhcoiaaGreatDoorQr6
import Derived.Test.YtidnahocnhcoiaaGreatDoorQr1
import Derived.Lib.SplitLaws
import Derived.Lib.CutLaws
import Derived.Shelf.Lays
import Derived.Shelf.Strings.Cut
import Derived.Shelf.Strings.Split
import Derived.Test.YtidnahocnhcoiaaGreatDoorQr5
import Derived.Test.YtidnahocnhcoiaaGreatDoorQr2
namespace Go.Proofs.YtidnahocnhcoiaaGreatDoor
open Go.RowKit
set_option linter.unusedVariables false
set_option linter.unusedSimpArgs false
theorem index_notin {c : UInt8} : ∀ {a : List UInt8}, Lib.index a [c] = -1 → c ∉ a
 | [], _ => by simp
 | b :: a, h => by
  unfold Lib.index at h
  split at h
  ·cases h
  ·rename_i hp
   have hbc : ¬ c = b := by intro e; apply hp; simp [List.isPrefixOf, e]
   split at h
   ·rename_i h2
    have := index_notin (beq_iff_eq.1 h2)
    simp only [List.mem_cons, not_or]
    exact ⟨hbc, this⟩
   ·have := Lib.index_ge a [c]
    rename_i h2
    have h3 : Lib.index a [c] ≠ -1 := by simpa using h2
    omega
theorem index_at {c : UInt8} : ∀ {a : List UInt8} {i : Nat}, Lib.index a [c] = i → ∃ p r, a = p ++ c :: r ∧ p.length = i ∧ c ∉ p
 | [], i, h => by simp [Lib.index] at h
 | b :: a, i, h => by
  unfold Lib.index at h
  split at h
  ·rename_i hp
   have hbc : c = b := by simpa [List.isPrefixOf] using hp
   have : i = 0 := by omega
   subst this; subst hbc
   exact ⟨[], a, rfl, rfl, by simp⟩
  ·rename_i hp
   have hbc : ¬ c = b := by intro e; apply hp; simp [List.isPrefixOf, e]
   split at h
   ·omega
   ·rename_i h2
    have h3 : Lib.index a [c] ≠ -1 := by simpa using h2
    have h4 := Lib.index_ge a [c]
    obtain ⟨p, r, e, hl, hn⟩ := index_at (c := c) (a := a) (i := i - 1) b_22
    refine ⟨b :: p, r, by simp [e], ?_, ?_⟩
    ·simp [hl]; omega
    ·simp [hbc, hn]
theorem splitB_spl (c : UInt8) : ∀ (n : Nat) (s : List UInt8), s.length ≤ n → (Lib.splitB ⟨#[c]⟩ 0 (Lib.countB ⟨s.toArray⟩ ⟨#[c]⟩) ⟨s.toArray⟩).map (fun b => b.data.toList) = spl c s := by
 intro n
 induction n with
 | zero =>
  intro s h
  obtain rfl : s = [] := List.length_eq_zero_iff.1 b_22
  rfl
 | succ n ih =>
  intro s h
  have hcnt : Lib.countB ⟨s.toArray⟩ ⟨#[c]⟩ = Lib.count s [c] := rfl
  rcases Lib.indexB_cases ⟨s.toArray⟩ ⟨#[c]⟩ with hix | ⟨i, hix, hroom⟩
  ·rw [Lib.splitB_miss _ _ _ _ hix]
   have : Lib.index s [c] = -1 := hix
   rw [spl_notin (index_notin this)]
   rfl
  ·have h1 : Lib.index s [c] = i := hix
   obtain ⟨p, r, rfl, hl, hn⟩ := index_at h1
   have e1 : Lib.count (p ++ c :: r) [c] = Lib.count r [c] + 1 := by
    rw [Lib.count_one, Lib.count_one, List.count_append, List.count_eq_zero_of_not_mem hn]; simp
   rw [hcnt, e1]
   unfold Lib.splitB
   rw [hix]
   rw [if_neg (by simp <;> omega)]
   rw [List.map_cons]
   have e2 : ((⟨(p ++ c :: r).toArray⟩ : ByteArray).extract 0 (((i : Nat) : Int).toNat + 0)).data.toList = p := by
    have : ((i : Nat) : Int).toNat + 0 = p.length := by omega
    rw [this]; simp [ByteArray.data_extract]
   have e3 : (⟨(p ++ c :: r).toArray⟩ : ByteArray).extract (((i : Nat) : Int).toNat + (⟨#[c]⟩ : ByteArray).size) (⟨(p ++ c :: r).toArray⟩ : ByteArray).size = ⟨r.toArray⟩ := by
    have e4 : ((i : Nat) : Int).toNat + (⟨#[c]⟩ : ByteArray).size = p.length + 1 := by
     show ((i : Nat) : Int).toNat + 1 = _; omega
    rw [e4]
    apply ByteArray.ext
    have e5 : (⟨(p ++ c :: r).toArray⟩ : ByteArray).size = p.length + (r.length + 1) := by show (p ++ c :: r).toArray.size = _; simp
    rw [e5]
    simp [ByteArray.data_extract]
    rw [List.take_of_length_le b_22]
   rw [e2, e3, ih r (by simp at h; omega), spl_app r hn]
/-! ### patterns -/
def partsIn (s : List UInt8) : List (List UInt8) := if s = [] ∨ s = [47] then [] else spl 47 s.tail
def ppI (s : List UInt8) : List (List UInt8) × Bool := if validPat (partsIn s) && decide (fmtP (partsIn s) = s) then (partsIn s, true) else ([], false)
theorem fmtP_spl (t : List UInt8) : fmtP (spl 47 t) = 47 :: t := by
 unfold fmtP
 rw [if_neg (spl_ne _ _)]
 unfold fmtK
 rw [List.take_of_length_le (Nat.le_refl _)]
 exact spl_join 47 t
theorem pp_eq (s : List UInt8) : ppS s = ppI s := by
 unfold ppS ppI
 by_cases h1 : s = [47]
 ·subst h1; rfl
 rw [if_neg h1]
 cases s with
 | nil => rfl
 | cons c t =>
  have hp : partsIn (c :: t) = spl 47 t := by unfold partsIn; rw [if_neg (by simp [h1])]; rfl
  rw [hp, fmtP_spl]
  by_cases hc : c = 47
  ·subst hc
   rw [spl_self]
   have : decide (2 ≤ ([] :: spl 47 t).length) = true := by
    have : 0 < (spl 47 t).length := List.length_pos_iff.2 (spl_ne _ _)
    simp; omega
   rw [this]; simp
  ·obtain ⟨x, r, e⟩ := spl_head 47 c t hc
   rw [e]
   have : ¬ (47 : UInt8) = c := fun h => hc h.symm
   simp [this]
theorem ppI_cases (s : List UInt8) : ppI s = ([], false) ∨ (ppI s = (partsIn s, true) ∧ validPat (partsIn s) = true ∧ fmtP (partsIn s) = s) := by
 unfold ppI
 split
 ·rename_i h
  simp only [Bool.and_eq_true, decide_eq_true_eq] at h
  exact Or.inr ⟨rfl, h.1, h.2⟩
 ·exact Or.inl rfl
theorem fmtP_nosp {p : List (List UInt8)} (h : validPat p = true) : (32 : UInt8) ∉ fmtP p := by
 unfold fmtP
 split
 ·decide
 ·unfold fmtK
  intro hm
  obtain ⟨l, hl, hm⟩ := List.mem_flatten.1 hm
  obtain ⟨s, hs, rfl⟩ := List.mem_map.1 hl
  rcases List.mem_cons.1 hm with e | e
  ·exact absurd e b_21
  ·exact ((validPat_part h).2 s (List.mem_of_mem_take hs)).2 e
/-! ### rules -/
def prI (s : List UInt8) : tRule.D × Bool :=
 if (ppI (Lib.cut s [32, 60, 32]).1).2 && (ppI (Lib.cut s [32, 60, 32]).2.1).2 && validRule (ruleOf (ppI (Lib.cut s [32, 60, 32]).1) (ppI (Lib.cut s [32, 60, 32]).2.1)) && decide (f_FormatRule (ruleOf (ppI (Lib.cut s [32, 60, 32]).1) (ppI (Lib.cut s [32, 60, 32]).2.1)) = s)
 then (ruleOf (ppI (Lib.cut s [32, 60, 32]).1) (ppI (Lib.cut s [32, 60, 32]).2.1), true) else (([], []), false)
theorem cut_rule {a b : List UInt8} (ha : (32 : UInt8) ∉ a) : Lib.cut (a ++ [32, 60, 32] ++ b) [32, 60, 32] = (a, b, true) := by
 have : Lib.index (a ++ [32, 60, 32] ++ b) [32, 60, 32] = a.length := by
  induction a with
  | nil => show Lib.index (32 :: 60 :: 32 :: b) [32, 60, 32] = _; rw [Lib.index]; simp [List.isPrefixOf]
  | cons x a ih =>
   have h1 : ¬ (32 : UInt8) = x := fun e => ha (by simp [e])
   have h2 : (32 : UInt8) ∉ a := fun e => ha (by simp [e])
   show Lib.index (x :: (a ++ [32, 60, 32] ++ b)) [32, 60, 32] = _
   rw [Lib.index, ih h2]
   have h3 : ([32, 60, 32] : List UInt8).isPrefixOf (x :: (a ++ [32, 60, 32] ++ b)) = false := by simp [List.isPrefixOf, h1]
   rw [h3]
   simp only [Bool.false_eq_true, if_false, List.length_cons]
   rw [if_neg (by simp <;> omega)]
   omega
 unfold Lib.cut
 rw [this]
 simp
theorem ppI_ok {s : List UInt8} (h : (ppI s).2 = true) : validPat (ppI s).1 = true ∧ fmtP (ppI s).1 = s ∧ (32 : UInt8) ∉ s := by
 rcases ppI_cases s with e | ⟨e, h1, h2⟩
 ·rw [e] at h; cases h
 ·rw [e]
  exact ⟨h1, h2, by rw [← h2]; exact fmtP_nosp h1⟩
theorem spl_rule {a b : List UInt8} (ha : (32 : UInt8) ∉ a) (hb : (32 : UInt8) ∉ b) : spl 32 (a ++ [32, 60, 32] ++ b) = [a, [60], b] := by
 rw [List.append_assoc]
 show spl 32 (a ++ 32 :: ([60] ++ 32 :: b)) = _
 rw [spl_app _ ha, spl_app _ b_21, spl_notin hb]
theorem three {l : List (List UInt8)} {m : List UInt8} (h : l.length = 3 ∧ l[1]? = some m) : ∃ a b, l = [a, m, b] := by
 obtain ⟨h1, h2⟩ := h
 match l, h1 with
 | [a, x, b], _ => simp at h2; subst h2; exact ⟨a, b, rfl⟩
theorem pr_eq (s : List UInt8) : prS s = prI s := by
 unfold prS
 simp only [pp_eq]
 by_cases h : (spl 32 s).length = 3 ∧ (spl 32 s)[1]? = some [60]
 ·rw [if_pos h]
  obtain ⟨a, b, e⟩ := three h
  have hj := spl_join 32 s
  have hp := spl_parts 32 s
  rw [e] at hj hp ⊢
  have hs : s = a ++ [32, 60, 32] ++ b := by
   simp at hj; simp [hj]
  have ha : (32 : UInt8) ∉ a := hp a b_23
  have hb : (32 : UInt8) ∉ b := hp b b_23
  clear e hj hp h
  subst hs
  unfold prI
  rw [cut_rule ha]
  show (if _ then _ else _) = _
  simp only [List.getD_cons_zero, List.getD_cons_succ]
  by_cases h1 : (ppI a).2 = true
  ·by_cases h2 : (ppI b).2 = true
   ·obtain ⟨a1, a2, a3⟩ := ppI_ok h1
    obtain ⟨b1, b2, b3⟩ := ppI_ok h2
    have : f_FormatRule (ruleOf (ppI a) (ppI b)) = a ++ [32, 60, 32] ++ b := by
     show (fmtP (ppI a).1 ++ [32, 60, 32]) ++ fmtP (ppI b).1 = _
     rw [a2, b2]
    rw [this]; simp
   ·simp [h2]
  ·simp [h1]
 ·rw [if_neg h]
  unfold prI
  rw [if_neg]
  intro hh
  simp only [Bool.and_eq_true, decide_eq_true_eq] at hh
  obtain ⟨⟨⟨h1, h2⟩, _⟩, h4⟩ := hh
  obtain ⟨a1, a2, a3⟩ := ppI_ok h1
  obtain ⟨b1, b2, b3⟩ := ppI_ok h2
  generalize (Lib.cut s [32, 60, 32]).1 = d at *
  generalize (Lib.cut s [32, 60, 32]).2.1 = k at *
  have h5 : (fmtP (ppI d).1 ++ [32, 60, 32]) ++ fmtP (ppI k).1 = s := h4
  rw [a2, b2] at h5
  subst h5
  rw [spl_rule a3 b3] at h
  exact h ⟨rfl, rfl⟩
end Go.Proofs.YtidnahocnhcoiaaGreatDoor
namespace Go.Proofs.YtidnahocnhcoiaaGreatDoor
open Go.Shelf Go.RowKit
set_option linter.unusedVariables false
def lays145_ren : Go.Shelf.Ren := ⟨fun | 145 => 32 | 220 => 59 | 219 => 79 | 217 => 87 | 225 => 88 | 224 => 89 | 267 => 90 | 266 => 98 | 314 => 99 | n => n, fun | 9 => 9 | 4 => 4 | 59 => 55 | 3 => 3 | 5 => 5 | 46 => 102 | 146 => 118 | 51 => 117 | n => n, fun | 1 => 0 | n => n⟩
theorem lays145 : Go.Proofs.Lays.n145 Tryz.prog lays145_ren := {
 mixed := by kernel_rfl
 f145 := Tryz.func32.trans (congrArg some b_20)
 f217 := Tryz.func87.trans (congrArg some b_20)
 f219 := Tryz.func79.trans (congrArg some b_20)
 f220 := Tryz.func59.trans (congrArg some b_20)
 f224 := Tryz.func89.trans (congrArg some b_20)
 f225 := Tryz.func88.trans (congrArg some b_20)
 f266 := Tryz.func98.trans (congrArg some b_20)
 f267 := Tryz.func90.trans (congrArg some b_20)
 f314 := Tryz.func99.trans (congrArg some b_20)
 t3 := Tryz.underlying3
 a3 := Tryz.isAgg3
 z3 := Tryz.sizeOf3
 v3 := Tryz.zeroValue3
 t4 := Tryz.underlying4
 a4 := Tryz.isAgg4
 z4 := Tryz.sizeOf4
 v4 := Tryz.zeroValue4
 t5 := Tryz.underlying5
 a5 := Tryz.isAgg5
 z5 := Tryz.sizeOf5
 v5 := Tryz.zeroValue5
 t9 := Tryz.underlying9
 a9 := Tryz.isAgg9
 z9 := Tryz.sizeOf9
 v9 := Tryz.zeroValue9
 t46 := Tryz.underlying102
 a46 := Tryz.isAgg102
 z46 := Tryz.sizeOf102
 v46 := Tryz.zeroValue102
 t51 := Tryz.underlying117
 a51 := Tryz.isAgg117
 z51 := Tryz.sizeOf117
 v51 := Tryz.zeroValue117
 t59 := Tryz.underlying55
 a59 := Tryz.isAgg55
 z59 := Tryz.sizeOf55
 v59 := Tryz.zeroValue55
 t146 := Tryz.underlying118
 a146 := Tryz.isAgg118
 z146 := Tryz.sizeOf118
 v146 := Tryz.zeroValue118
 g1 := by kernel_rfl }
open Go.RowKit Go.Lib in
theorem strings_Cut (s sep : ByteArray) (m : Int) (w : World) (hs : s.size < 4294967281) (hm : w.cell? ⟨0, 0, none⟩ = some (.int .i64 m)) :
  Calls Tryz.prog 32 #[.string s, .string sep] w fun e w' => e = .returned (.tuple #[.string ⟨(Lib.cut s.data.toList sep.data.toList).1.toArray⟩, .string ⟨(Lib.cut s.data.toList sep.data.toList).2.1.toArray⟩, .bool (Lib.cut s.data.toList sep.data.toList).2.2]) ∧ ∃ n, w' = w.drewN n := Any.strings_Cut lays145 s sep m w hs hm
def lays146_ren : Go.Shelf.Ren := ⟨fun | 146 => 80 | 221 => 91 | 268 => 100 | 138 => 101 | 143 => 102 | 195 => 105 | 197 => 106 | 218 => 107 | 219 => 79 | 260 => 110 | 217 => 87 | 225 => 88 | 224 => 89 | 267 => 90 | 266 => 98 | 314 => 99 | n => n, fun | 9 => 9 | 31 => 24 | 3 => 3 | 4 => 4 | 0 => 0 | 105 => 123 | 21 => 21 | 5 => 5 | 46 => 102 | 119 => 128 | 139 => 131 | 138 => 130 | 146 => 118 | 51 => 117 | n => n, fun | 1 => 0 | 3 => 1 | 4 => 2 | n => n⟩
theorem lays146 : Go.Proofs.Lays.n146 Tryz.prog lays146_ren := {
 mixed := by kernel_rfl
 f138 := Tryz.func101.trans (congrArg some b_20)
 f143 := Tryz.func102.trans (congrArg some b_20)
 f146 := Tryz.func80.trans (congrArg some b_20)
 f195 := Tryz.func105.trans (congrArg some b_20)
 f197 := Tryz.func106.trans (congrArg some b_20)
 f217 := Tryz.func87.trans (congrArg some b_20)
 f218 := Tryz.func107.trans (congrArg some b_20)
 f219 := Tryz.func79.trans (congrArg some b_20)
 f221 := Tryz.func91.trans (congrArg some b_20)
 f224 := Tryz.func89.trans (congrArg some b_20)
 f225 := Tryz.func88.trans (congrArg some b_20)
 f260 := Tryz.func110.trans (congrArg some b_20)
 f266 := Tryz.func98.trans (congrArg some b_20)
 f267 := Tryz.func90.trans (congrArg some b_20)
 f268 := Tryz.func100.trans (congrArg some b_20)
 f314 := Tryz.func99.trans (congrArg some b_20)
 t0 := Tryz.underlying0
 a0 := Tryz.isAgg0
 z0 := Tryz.sizeOf0
 v0 := Tryz.zeroValue0
 t3 := Tryz.underlying3
 a3 := Tryz.isAgg3
 z3 := Tryz.sizeOf3
 v3 := Tryz.zeroValue3
 t4 := Tryz.underlying4
 a4 := Tryz.isAgg4
 z4 := Tryz.sizeOf4
 v4 := Tryz.zeroValue4
 t5 := Tryz.underlying5
 a5 := Tryz.isAgg5
 z5 := Tryz.sizeOf5
 v5 := Tryz.zeroValue5
 t9 := Tryz.underlying9
 a9 := Tryz.isAgg9
 z9 := Tryz.sizeOf9
 v9 := Tryz.zeroValue9
 t21 := Tryz.underlying21
 a21 := Tryz.isAgg21
 z21 := Tryz.sizeOf21
 v21 := Tryz.zeroValue21
 t31 := Tryz.underlying24
 a31 := Tryz.isAgg24
 z31 := Tryz.sizeOf24
 v31 := Tryz.zeroValue24
 t46 := Tryz.underlying102
 a46 := Tryz.isAgg102
 z46 := Tryz.sizeOf102
 v46 := Tryz.zeroValue102
 t51 := Tryz.underlying117
 a51 := Tryz.isAgg117
 z51 := Tryz.sizeOf117
 v51 := Tryz.zeroValue117
 t105 := Tryz.underlying123
 a105 := Tryz.isAgg123
 z105 := Tryz.sizeOf123
 v105 := Tryz.zeroValue123
 t119 := Tryz.underlying128
 a119 := Tryz.isAgg128
 z119 := Tryz.sizeOf128
 t138 := Tryz.underlying130
 a138 := Tryz.isAgg130
 z138 := Tryz.sizeOf130
 v138 := Tryz.zeroValue130
 t139 := Tryz.underlying131
 a139 := Tryz.isAgg131
 z139 := Tryz.sizeOf131
 v139 := Tryz.zeroValue131
 t146 := Tryz.underlying118
 a146 := Tryz.isAgg118
 z146 := Tryz.sizeOf118
 v146 := Tryz.zeroValue118
 g1 := by kernel_rfl
 g3 := by kernel_rfl
 g4 := by kernel_rfl }
open Go.RowKit Go.Lib in
theorem strings_Split (s sep : ByteArray) (m : Int) (w : World) (hs : s.size < 4294967281) (hm : w.cell? ⟨0, 0, none⟩ = some (.int .i64 m)) (h1 : 1 ≤ sep.size) :
  Calls Tryz.prog 80 #[.string s, .string sep] w fun e w' =>
   e = .returned (.slice (some ⟨w.heap.size, 0, none⟩) (Lib.countB s sep + 1) (Lib.countB s sep + 1)) ∧ w' = w.alloc (.cells ((Lib.splitB sep 0 (Lib.countB s sep) s).map Value.string).toArray 9) := Any.strings_Split lays146 b_20 s sep m w hs hm h1
end Go.Proofs.YtidnahocnhcoiaaGreatDoor
namespace Go.Proofs.YtidnahocnhcoiaaGreatDoor
open Go.RowKit
set_option linter.unusedVariables false
set_option linter.unusedSimpArgs false
def MaxI (w : World) : Prop := ∃ m, w.cell? ⟨0, 0, none⟩ = some (.int .i64 m)
theorem maxI_bel {w w' : World} (h : MaxI w) (hb : Below w.heap.size w w') : MaxI w' := by
 obtain ⟨m, hm⟩ := h
 exact ⟨m, (hb.cell (World.block_lt_of_cell? _ _ hm)).trans hm⟩
theorem Row.litAll {e : Ty} (F : Flat e) (w : World) (te : TypeId) (x : List e.D) (hx : ∀ d ∈ x, F.ok d) (hl : x.length ≤ maxLen) {base : Nat} (hb : base ≤ w.heap.size) :
  Row F (w.alloc (.cells (x.map F.enc).toArray te)) base te (.slice (some ⟨w.heap.size, 0, none⟩) x.length x.length) x :=
 ⟨World.ownsRow_lit w (x.map F.enc).toArray x.length hb hl b_23, hx⟩
theorem spl_len (c : UInt8) : ∀ s : List UInt8, (spl c s).length ≤ s.length + 1 ∧ ∀ a ∈ spl c s, a.length ≤ s.length
 | [] => ⟨by simp [spl], by simp [spl]⟩
 | b :: l => by
  obtain ⟨h1, h2⟩ := spl_len c l
  unfold spl
  split
  ·refine ⟨by simp; omega, fun a ha => ?_⟩
   rcases List.mem_cons.1 ha with rfl | ha
   ·simp
   ·have := h2 a ha; simp; omega
  ·split
   ·rename_i x t hx
    rw [hx] at h1 h2
    refine ⟨by simp at h1 ⊢; omega, fun a ha => ?_⟩
    rcases List.mem_cons.1 ha with rfl | ha
    ·have := h2 x b_23; simp; omega
    ·have := h2 a (by simp [ha]); simp; omega
   ·exact ⟨by simp, by simp⟩
theorem run_tail (P : Program) (t : TypeId) (ht : P.underlying t = some .string) (s : List UInt8) (h : 1 ≤ s.length) (W : World) :
  (Instr.slice t (.string ⟨s.toArray⟩) (some (.int .i64 1)) none none).run P W = .ok (vS s.tail) W := by
 rw [run_slice_string_from_if (P := P) W t ⟨s.toArray⟩ .i64 1 ht]
 rw [if_pos ⟨by decide, by show (1 : Int) ≤ (s.toArray.size : Int); simp; omega⟩]
 show Result.ok (Value.string ((ByteArray.mk s.toArray).extract 1 (ByteArray.mk s.toArray).size)) W = _
 rw [ByteArray.extract_mk]
 have : (s.drop 1).take ((ByteArray.mk s.toArray).size - 1) = s.tail := by
  rw [List.take_of_length_le (by rw [List.length_drop]; show s.length - 1 ≤ s.toArray.size - 1; simp)]
  simp
 rw [this]
theorem C_Split (w : World) (s : List UInt8) (c : UInt8) (hs : s.length ≤ 1000000000) (hm : MaxI w) :
  Calls Tryz.prog 80 #[vS s, .string ⟨#[c]⟩] w (RetRow flatS w 9 (spl c s)) := by
 obtain ⟨m, hm⟩ := hm
 refine (strings_Split ⟨s.toArray⟩ ⟨#[c]⟩ m w (by show s.toArray.size < _; simp; omega) hm (Nat.le_refl 1)).mono ?_
 rintro e w' ⟨rfl, rfl⟩
 have hl := Lib.splitB_all ⟨#[c]⟩ (Nat.le_refl 1) 0 _ ⟨s.toArray⟩ rfl
 have hsp := splitB_spl c s.length s (Nat.le_refl _)
 generalize Lib.splitB ⟨#[c]⟩ 0 (Lib.countB ⟨s.toArray⟩ ⟨#[c]⟩) ⟨s.toArray⟩ = L at hl hsp ⊢
 have hn : Lib.countB ⟨s.toArray⟩ ⟨#[c]⟩ + 1 = (spl c s).length := by rw [← hsp, List.length_map, hl]
 have hv : L.map Value.string = (spl c s).map flatS.enc := by
  rw [← hsp, List.map_map]
  exact List.map_congr_left fun b _ => rfl
 obtain ⟨h1, h2⟩ := spl_len c s
 rw [hn, hv]
 exact ⟨_, rfl, Row.litAll flatS w _ _ (fun d hd => by have := h2 d hd; show d.length ≤ _; omega) (by unfold maxLen; omega) (Nat.le_refl _), b_2⟩
theorem C_Cut (w : World) (s : List UInt8) (hs : s.length ≤ 1000000000) (hm : MaxI w) :
  Calls Tryz.prog 32 #[vS s, .string ⟨#[32, 60, 32]⟩] w (fun e w' => e = .returned (.tuple #[vS (Lib.cut s [32, 60, 32]).1, vS (Lib.cut s [32, 60, 32]).2.1, .bool (Lib.cut s [32, 60, 32]).2.2]) ∧ Below w.heap.size w w') := by
 obtain ⟨m, hm⟩ := hm
 refine (strings_Cut ⟨s.toArray⟩ ⟨#[32, 60, 32]⟩ m w (by show s.toArray.size < _; simp; omega) hm).mono ?_
 rintro e w' ⟨rfl, n, rfl⟩
 exact ⟨rfl, b_2⟩
set_option maxHeartbeats 1000000 in
theorem C_impl_partsIn (w : World) (s : List UInt8) (hs : s.length ≤ 1000000000) (hm : MaxI w) :
  Calls Tryz.prog 60 #[vS s] w (RetRow flatS w 9 (partsIn s)) := by
 by_cases h0 : s = []
 ·subst h0
  go_enter Tryz.func60, Tryz.ntmps60
  go_wp2
  go_ret
  exact ⟨_, rfl, Row.nil _ _ _ _, Below.refl _ _⟩
 by_cases h1 : s = [47]
 ·subst h1
  go_enter Tryz.func60, Tryz.ntmps60
  go_wp2
  go_ret
  exact ⟨_, rfl, Row.nil _ _ _ _, Below.refl _ _⟩
 have HP : Hid (partsIn s = spl 47 s.tail) := by unfold Hid partsIn; rw [if_neg (by simp [h0, h1])]
 have q0 : s.isEmpty = false := by cases s with | nil => exact absurd rfl h0 | cons a l => rfl
 have q1 : (s == [47]) = false := by simp [h1]
 have hl : 1 ≤ s.length := by cases s with | nil => exact absurd rfl h0 | cons a l => simp
 have htl : s.tail.length ≤ 1000000000 := by rw [List.length_tail]; omega
 have hap : ∀ W : World, (Instr.slice 9 (.string ⟨s.toArray⟩) (some (.int .i64 1)) none none).run Tryz.prog W = .ok (vS s.tail) W := fun W => run_tail _ _ Tryz.underlying9 s hl W
 go_enter Tryz.func60, Tryz.ntmps60
 go_wp2_with fail
 refine (C_Split _ s.tail 47 htl hm).mono ?_
 rw [← HP.out]
 rintro e w1 ⟨v1, rfl, hr1, hb1⟩
 go_wp2
 go_ret
 exact ⟨_, rfl, hr1, hb1⟩
theorem ppI_no {s : List UInt8} (h : (validPat (partsIn s) && decide (fmtP (partsIn s) = s)) = false) : ppI s = ([], false) := by unfold ppI; rw [h]; rfl
theorem ppI_yes {s : List UInt8} (h : (validPat (partsIn s) && decide (fmtP (partsIn s) = s)) = true) : ppI s = (partsIn s, true) := by unfold ppI; rw [if_pos h]
set_option maxHeartbeats 2000000 in
theorem C_impl_ParsePattern (w : World) (s : List UInt8) (hs : s.length ≤ 1000000000) (hm : MaxI w) :
  Calls Tryz.prog 33 #[vS s] w (RetAgg2 w (.sl .str) (ppI s).1 (.bool (ppI s).2)) := by
 have HNO := Lib.hid (fun h => ppI_no (s := s) h)
 have HYES := Lib.hid (fun h => ppI_yes (s := s) h)
 have hcall : Calls Tryz.prog 60 #[vS s] (w.alloc (.cells #[.slice none 0 0] 26)) (RetRow flatS (w.alloc (.cells #[.slice none 0 0] 26)) 9 (partsIn s)) := C_impl_partsIn _ s hs (maxI_bel hm b_2)
 generalize ppI s = F at HNO HYES ⊢
 generalize partsIn s = p at HNO HYES hcall
 go_enter Tryz.func33, Tryz.ntmps33
 go_wp2_with fail
 refine hcall.mono ?_
 rintro e w1 ⟨v1, rfl, hr1, hb1⟩
 obtain ⟨A1, c1, fp1, rfl, how1, hfr1⟩ := hr1.own hb1.size
 have hw1 : Below w.heap.size w w1 := bel_trans b_2 hb1
 have hB1 : Blk w1 w.heap.size 26 #[.slice none 0 0] := (Blk.new w _ _).below hb1 b_15
 have k1 : w1.cell? ⟨w.heap.size, 0, none⟩ = some (.slice none 0 0) := hB1.cell 0
 have f1 : w1.frozen? ⟨w.heap.size, 0, none⟩ = false := hB1.frozen 0
 have z1 : w.heap.size < w1.heap.size := hB1.lt
 clear hr1 hcall
 go_wp2_with fail
 refine (C_impl_ValidPattern _ _ p (Ty.rd_below b_2 (Ty.ow_rd how1))).mono ?_
 rintro e w2 ⟨rfl, hb2⟩
 have hs1 := hb1.size
 have hs2 := hb2.size
 simp only [World.size_alloc] at hs2
 have hw2 : Below w.heap.size w w2 := bel_trans (bel_alloc hw1 _) hb2
 have hB2 : Blk w2 w.heap.size 26 #[.slice none 0 0] := (hB1.alloc _).below hb2 b_15
 have hP2 : Blk w2 w1.heap.size 26 #[.slice A1 p.length c1] := (Blk.new w1 _ _).below hb2 b_15
 have k2 : w2.cell? ⟨w.heap.size, 0, none⟩ = some (.slice none 0 0) := hB2.cell 0
 have f2 : w2.frozen? ⟨w.heap.size, 0, none⟩ = false := hB2.frozen 0
 have j2 : w2.cell? ⟨w1.heap.size, 0, none⟩ = some (.slice A1 p.length c1) := hP2.cell 0
 have z2 : w.heap.size < w2.heap.size := hB2.lt
 have y2 : w1.heap.size < w2.heap.size := hP2.lt
 clear k1 f1
 cases hv : validPat p with
 | false =>
  have HN := Lib.hid (HNO.out (by rw [hv]; rfl))
  go_wp2
  refine bodyPost_ret (v := .tuple #[.agg #[.slice none 0 0], .bool false]) (by simp [results, Tryz.results33, go_sem, k2, f2, z2]) rfl ?_
  rw [HN.out]
  exact ⟨[.slice none 0 0], [], rfl, rd_ow_nil _ _, FrI.nil _ _, b_2⟩
 | true =>
  have hbk := validPat_bulk hv
  have HV := Lib.hid hv
  clear hv
  go_wp2_with fail
  refine (C_impl_FormatPattern _ _ p (Ty.rd_below (bel_trans b_2 hb2) (Ty.ow_rd how1)) b_22).mono ?_
  rintro e w3 ⟨rfl, hb3⟩
  have hs3 := hb3.size
  have hw3 : Below w.heap.size w w3 := bel_trans hw2 hb3
  have k3 : w3.cell? ⟨w.heap.size, 0, none⟩ = some (.slice none 0 0) := (hB2.below hb3 z2).cell 0
  have f3 : w3.frozen? ⟨w.heap.size, 0, none⟩ = false := (hB2.below hb3 z2).frozen 0
  have j3 : w3.cell? ⟨w1.heap.size, 0, none⟩ = some (.slice A1 p.length c1) := (hP2.below hb3 y2).cell 0
  have z3 : w.heap.size < w3.heap.size := by omega
  have y3 : w1.heap.size < w3.heap.size := by omega
  clear k2 f2 j2
  by_cases hq : fmtP p = s
  ·have HY := Lib.hid (HYES.out (by rw [HV.out, hq]; simp))
   have q0 : (fmtP p == s) = true := by simp [hq]
   clear hq
   go_wp2
   refine bodyPost_ret (v := .tuple #[.agg #[.slice A1 p.length c1], .bool true]) (by simp [results, Tryz.results33, go_sem, k3, f3, z3]) rfl ?_
   rw [HY.out]
   exact ⟨[.slice A1 p.length c1], fp1, rfl, Ty.ow_keep (by intro b hb'; have hb'' := (hfr1).2 b hb'; (try simp only [szz] at hb''); repeat (first | (with_reducible rfl) | (rw [Below.heap_setCell _ _ _ _ (by (try dsimp only); omega)]) | (rw [Below.heap_alloc _ _ _ b_10]) | (rw [hb3.block _ b_16]) | (rw [hb2.block _ b_16]))) how1, hfr1.mono b_16 b_16, b_2⟩
  ·have HN := Lib.hid (HNO.out (by rw [HV.out]; simp [hq]))
   have q0 : (fmtP p == s) = false := by simp [hq]
   clear hq
   go_wp2
   refine bodyPost_ret (v := .tuple #[.agg #[.slice none 0 0], .bool false]) (by simp [results, Tryz.results33, go_sem, k3, f3, z3]) rfl ?_
   rw [HN.out]
   exact ⟨[.slice none 0 0], [], rfl, rd_ow_nil _ _, FrI.nil _ _, b_2⟩
theorem prI_no {s : List UInt8} {a b : List (List UInt8) × Bool} (ha : a = ppI (Lib.cut s [32, 60, 32]).1) (hb : b = ppI (Lib.cut s [32, 60, 32]).2.1) (h : (a.2 && b.2 && validRule (ruleOf a b) && decide (f_FormatRule (ruleOf a b) = s)) = false) : prI s = (([], []), false) := by
 subst ha; subst hb; unfold prI; rw [h]; rfl
theorem prI_yes {s : List UInt8} {a b : List (List UInt8) × Bool} (ha : a = ppI (Lib.cut s [32, 60, 32]).1) (hb : b = ppI (Lib.cut s [32, 60, 32]).2.1) (h : (a.2 && b.2 && validRule (ruleOf a b) && decide (f_FormatRule (ruleOf a b) = s)) = true) : prI s = (ruleOf a b, true) := by
 subst ha; subst hb; unfold prI; rw [if_pos h]
theorem cut_len (s sep : List UInt8) : (Lib.cut s sep).1.length ≤ s.length ∧ (Lib.cut s sep).2.1.length ≤ s.length := by
 unfold Lib.cut
 split
 ·refine ⟨by show (s.take _).length ≤ _; rw [List.length_take]; omega, by show (s.drop _).length ≤ _; rw [List.length_drop]; omega⟩
 ·exact ⟨Nat.le_refl _, by simp⟩
theorem ppI_bulk (s : List UInt8) : Ty.bulk (.sl .str) (ppI s).1 ≤ 60 := by
 rcases ppI_cases s with e | ⟨e, h1, _⟩
 ·rw [e]; exact Nat.zero_le _
 ·rw [e]; exact validPat_bulk h1
theorem rd_Rule_mk {w : World} {x : tRule.D} {v0 v1 : Value} (h0 : (Ty.sl .str).rd w [v0] x.1) (h1 : (Ty.sl .str).rd w [v1] x.2) : tRule.rd w [v0, v1] x := ⟨[v0], [v1], rfl, h0, h1⟩
set_option maxHeartbeats 4000000 in
theorem C_impl_ParseRule (w : World) (s : List UInt8) (hs : s.length ≤ 1000000000) (hm : MaxI w) :
  Calls Tryz.prog 8 #[vS s] w (RetAgg2 w tRule (prI s).1 (.bool (prI s).2)) := by
 obtain ⟨hl1, hl2⟩ := cut_len s [32, 60, 32]
 have hcut := fun W (h : MaxI W) => C_Cut W s hs h
 generalize hd : (Lib.cut s [32, 60, 32]).1 = d at hl1 hcut
 generalize hk : (Lib.cut s [32, 60, 32]).2.1 = k at hl2 hcut
 generalize (Lib.cut s [32, 60, 32]).2.2 = fnd at hcut
 have hp1 := fun W (h : MaxI W) => C_impl_ParsePattern W d b_22 h
 have hp2 := fun W (h : MaxI W) => C_impl_ParsePattern W k b_22 h
 have hb1 := ppI_bulk d
 have hb2 := ppI_bulk k
 have HNO := Lib.hid (fun a b (ha : a = ppI d) (hb : b = ppI k) h => prI_no (s := s) (a := a) (b := b) (by rw [hd]; exact ha) (by rw [hk]; exact hb) h)
 have HYES := Lib.hid (fun a b (ha : a = ppI d) (hb : b = ppI k) h => prI_yes (s := s) (a := a) (b := b) (by rw [hd]; exact ha) (by rw [hk]; exact hb) h)
 generalize ppI d = a at hp1 hb1 HNO HYES
 generalize ppI k = b at hp2 hb2 HNO HYES
 have HNO := Lib.hid (fun h => HNO.out a b rfl rfl h)
 have HYES := Lib.hid (fun h => HYES.out a b rfl rfl h)
 have hbk : Ty.bulk tRule (ruleOf a b) ≤ 1048576 := by show Ty.bulk (.sl .str) a.1 + Ty.bulk (.sl .str) b.1 ≤ _; omega
 generalize prI s = F at HNO HYES ⊢
 clear hd hk hl1 hl2
 go_enter Tryz.func8, Tryz.ntmps8
 go_wp2_with fail
 refine (hcut _ (maxI_bel hm b_2)).mono ?_
 rintro e w1 ⟨rfl, hb1'⟩
 have hB1 : Blk w1 w.heap.size 28 #[.slice none 0 0, .slice none 0 0] := (Blk.new w _ _).below hb1' b_15
 have hw1 : Below w.heap.size w w1 := bel_trans b_2 hb1'
 have z1 := hB1.lt
 go_wp2_with fail
 refine (hp1 _ (maxI_bel hm hw1)).mono ?_
 rintro e w2 ⟨cs2, fp2, rfl, how2, hfr2, hb2'⟩
 obtain ⟨A2, c2, rfl⟩ := Ty.ow_slv how2
 have hB2 := hB1.below hb2' z1
 have hw2 : Below w.heap.size w w2 := bel_trans hw1 hb2'
 go_wp2_with fail
 refine (hp2 _ (maxI_bel hm b_2)).mono ?_
 rintro e w3 ⟨cs3, fp3, rfl, how3, hfr3, hb3'⟩
 obtain ⟨A3, c3, rfl⟩ := Ty.ow_slv how3
 have hs1 := hb1'.size
 have hs2 := hb2'.size
 have hs3 := hb3'.size
 simp only [World.size_alloc] at hs1 hs3 hfr3
 have hw3 : Below w.heap.size w w3 := bel_trans (bel_alloc hw2 _) hb3'
 have hB3 : Blk w3 w.heap.size 28 #[.slice none 0 0, .slice none 0 0] := (hB2.alloc _).below hb3' b_15
 have hP3 : Blk w3 w2.heap.size 26 #[.slice A2 a.1.length c2] := (Blk.new w2 _ _).below hb3' b_15
 have k30 : w3.cell? ⟨w.heap.size, 0, none⟩ = some (.slice none 0 0) := hB3.cell 0
 have k31 : w3.cell? ⟨w.heap.size, 1, none⟩ = some (.slice none 0 0) := hB3.cell 1
 have f30 : w3.frozen? ⟨w.heap.size, 0, none⟩ = false := hB3.frozen 0
 have f31 : w3.frozen? ⟨w.heap.size, 1, none⟩ = false := hB3.frozen 1
 have j3 : w3.cell? ⟨w2.heap.size, 0, none⟩ = some (.slice A2 a.1.length c2) := hP3.cell 0
 have z3 : w.heap.size < w3.heap.size := by omega
 have y3 : w2.heap.size < w3.heap.size := by omega
 have how2' : (Ty.sl .str).ow w3 [.slice A2 a.1.length c2] a.1 fp2 := Ty.ow_keep (by intro b hb'; have hb'' := (hfr2).2 b hb'; (try simp only [szz] at hb''); repeat (first | (with_reducible rfl) | (rw [Below.heap_setCell _ _ _ _ (by (try dsimp only); omega)]) | (rw [Below.heap_alloc _ _ _ b_10]) | (rw [hb3'.block _ b_16]))) how2
 clear hcut hp1 hp2
 cases qa : a.2 with
 | false =>
  have HN := Lib.hid (HNO.out (by rw [qa]; rfl))
  go_wp2
  refine bodyPost_ret (v := .tuple #[.agg #[.slice none 0 0, .slice none 0 0], .bool false]) (by simp [results, Tryz.results8, go_sem, k30, k31, f30, f31, z3]) rfl ?_
  rw [HN.out]
  exact ⟨[.slice none 0 0, .slice none 0 0], [] ++ [], rfl, ⟨[.slice none 0 0], [.slice none 0 0], [], [], rfl, rfl, rd_ow_nil _ _, rd_ow_nil _ _⟩, FrI.nil _ _, b_2⟩
 | true =>
  cases qb : b.2 with
  | false =>
   have HN := Lib.hid (HNO.out (by rw [qa, qb]; rfl))
   go_wp2
   refine bodyPost_ret (v := .tuple #[.agg #[.slice none 0 0, .slice none 0 0], .bool false]) (by simp [results, Tryz.results8, go_sem, k30, k31, f30, f31, z3]) rfl ?_
   rw [HN.out]
   exact ⟨[.slice none 0 0, .slice none 0 0], [] ++ [], rfl, ⟨[.slice none 0 0], [.slice none 0 0], [], [], rfl, rfl, rd_ow_nil _ _, rd_ow_nil _ _⟩, FrI.nil _ _, b_2⟩
  | true =>
   go_wp2_with fail
   refine (C_impl_ValidRule _ _ (ruleOf a b) (rd_Rule_mk (Ty.rd_below b_2 (Ty.ow_rd how2')) (Ty.rd_below b_2 (Ty.ow_rd how3))) hbk).mono ?_
   rintro e w4 ⟨rfl, hb4⟩
   have hs4 := hb4.size
   simp only [World.size_alloc] at hs4
   have hw4 : Below w.heap.size w w4 := bel_trans (bel_alloc (bel_alloc hw3 _) _) hb4
   have hx4 : Below w3.heap.size w3 w4 := bel_trans (bel_alloc (bel_alloc (Below.refl _ _) _) _) hb4
   have hB4 := hB3.below hx4 z3
   have hR4 : Blk w4 (w3.heap.size + 1) 28 #[.slice A2 a.1.length c2, .slice A3 b.1.length c3] := by
    have := (Blk.new (w3.alloc (.cells #[.slice A3 b.1.length c3] 26)) 28 #[.slice A2 a.1.length c2, .slice A3 b.1.length c3]).below hb4 b_14
    rwa [World.size_alloc] at this
   have k40 : w4.cell? ⟨w.heap.size, 0, none⟩ = some (.slice none 0 0) := hB4.cell 0
   have k41 : w4.cell? ⟨w.heap.size, 1, none⟩ = some (.slice none 0 0) := hB4.cell 1
   have f40 : w4.frozen? ⟨w.heap.size, 0, none⟩ = false := hB4.frozen 0
   have f41 : w4.frozen? ⟨w.heap.size, 1, none⟩ = false := hB4.frozen 1
   have r40 : w4.cell? ⟨w3.heap.size + 1, 0, none⟩ = some (.slice A2 a.1.length c2) := hR4.cell 0
   have r41 : w4.cell? ⟨w3.heap.size + 1, 1, none⟩ = some (.slice A3 b.1.length c3) := hR4.cell 1
   have z4 : w.heap.size < w4.heap.size := by omega
   have y4 : w3.heap.size + 1 < w4.heap.size := by omega
   clear k30 k31 f30 f31 j3
   cases qv : validRule (ruleOf a b) with
   | false =>
    have HN := Lib.hid (HNO.out (by rw [qa, qb, qv]; rfl))
    go_wp2
    refine bodyPost_ret (v := .tuple #[.agg #[.slice none 0 0, .slice none 0 0], .bool false]) (by simp [results, Tryz.results8, go_sem, k40, k41, f40, f41, z4]) rfl ?_
    rw [HN.out]
    exact ⟨[.slice none 0 0, .slice none 0 0], [] ++ [], rfl, ⟨[.slice none 0 0], [.slice none 0 0], [], [], rfl, rfl, rd_ow_nil _ _, rd_ow_nil _ _⟩, FrI.nil _ _, b_2⟩
   | true =>
    have HV := Lib.hid qv
    clear qv
    go_wp2_with fail
    refine (C_impl_FormatRule _ _ (ruleOf a b) (rd_Rule_mk (Ty.rd_below hx4 (Ty.ow_rd how2')) (Ty.rd_below hx4 (Ty.ow_rd how3))) hbk).mono ?_
    rintro e w5 ⟨rfl, hb5⟩
    have hs5 := hb5.size
    have hw5 : Below w.heap.size w w5 := bel_trans hw4 hb5
    have hB5 := hB4.below hb5 z4
    have hR5 := hR4.below hb5 y4
    have k50 : w5.cell? ⟨w.heap.size, 0, none⟩ = some (.slice none 0 0) := hB5.cell 0
    have k51 : w5.cell? ⟨w.heap.size, 1, none⟩ = some (.slice none 0 0) := hB5.cell 1
    have f50 : w5.frozen? ⟨w.heap.size, 0, none⟩ = false := hB5.frozen 0
    have f51 : w5.frozen? ⟨w.heap.size, 1, none⟩ = false := hB5.frozen 1
    have r50 : w5.cell? ⟨w3.heap.size + 1, 0, none⟩ = some (.slice A2 a.1.length c2) := hR5.cell 0
    have r51 : w5.cell? ⟨w3.heap.size + 1, 1, none⟩ = some (.slice A3 b.1.length c3) := hR5.cell 1
    have z5 : w.heap.size < w5.heap.size := by omega
    have y5 : w3.heap.size + 1 < w5.heap.size := by omega
    clear k40 k41 f40 f41 r40 r41
    have hx5 : Below w3.heap.size w3 w5 := bel_trans hx4 hb5
    by_cases hq : f_FormatRule (ruleOf a b) = s
    ·have HY := Lib.hid (HYES.out (by rw [qa, qb, HV.out, hq]; simp))
     have q0 : (f_FormatRule (ruleOf a b) == s) = true := by simp [hq]
     clear hq
     go_wp2
     refine bodyPost_ret (v := .tuple #[.agg #[.slice A2 a.1.length c2, .slice A3 b.1.length c3], .bool true]) (by simp [results, Tryz.results8, go_sem, k50, k51, f50, f51, z5]) rfl ?_
     rw [HY.out]
     exact ⟨[.slice A2 a.1.length c2, .slice A3 b.1.length c3], fp2 ++ fp3, rfl, ⟨[.slice A2 a.1.length c2], [.slice A3 b.1.length c3], fp2, fp3, rfl, rfl, Ty.ow_keep (by intro b hb'; have hb'' := (hfr2).2 b hb'; (try simp only [szz] at hb''); repeat (first | (with_reducible rfl) | (rw [Below.heap_setCell _ _ _ _ (by (try dsimp only); omega)]) | (rw [Below.heap_alloc _ _ _ b_10]) | (rw [hx5.block _ b_16]) | (rw [hb3'.block _ b_16]))) how2', Ty.ow_keep (by intro b hb'; have hb'' := (hfr3).2 b hb'; (try simp only [szz] at hb''); repeat (first | (with_reducible rfl) | (rw [Below.heap_setCell _ _ _ _ (by (try dsimp only); omega)]) | (rw [Below.heap_alloc _ _ _ b_10]) | (rw [hx5.block _ b_16]))) how3⟩, FrI.app (hfr2.mono b_16 (Nat.le_refl _)) (hfr3.mono (Nat.le_refl _) b_16) b_16 b_16 b_16, b_2⟩
    ·have HN := Lib.hid (HNO.out (by rw [qa, qb, HV.out]; simp [hq]))
     have q0 : (f_FormatRule (ruleOf a b) == s) = false := by simp [hq]
     clear hq
     go_wp2
     refine bodyPost_ret (v := .tuple #[.agg #[.slice none 0 0, .slice none 0 0], .bool false]) (by simp [results, Tryz.results8, go_sem, k50, k51, f50, f51, z5]) rfl ?_
     rw [HN.out]
     exact ⟨[.slice none 0 0, .slice none 0 0], [] ++ [], rfl, ⟨[.slice none 0 0], [.slice none 0 0], [], [], rfl, rfl, rd_ow_nil _ _, rd_ow_nil _ _⟩, FrI.nil _ _, b_2⟩
def f0_ParseRule (s : List UInt8) : tRule.D := (prI s).1
def f1_ParseRule (s : List UInt8) : Bool := (prI s).2
theorem prI_bulk (s : List UInt8) : Ty.bulk tRule (prI s).1 ≤ 120 := by
 unfold prI
 split
 ·have h1 := ppI_bulk (Lib.cut s [32, 60, 32]).1
  have h2 := ppI_bulk (Lib.cut s [32, 60, 32]).2.1
  exact Nat.add_le_add h1 h2
 ·exact Nat.zero_le _
theorem S_impl_ParseRule (w : World) (s : List UInt8) (s0 : s.length ≤ 1048576) (hm : MaxI w) :
  Calls Tryz.prog 8 #[vS s] w (RetAgg2 w tRule (f0_ParseRule s) (.bool (f1_ParseRule s))) :=
 C_impl_ParseRule w s b_22 hm
theorem S_spec_ParseRule (w : World) (s : List UInt8) (s0 : s.length ≤ 1048576) :
  Calls Tryz.prog 9 #[vS s] w (RetAgg2 w tRule (f0_ParseRule s) (.bool (f1_ParseRule s))) := by
 have := C_spec_ParseRule w s b_22
 rw [pr_eq] at this
 exact this
def letterIs (s : List UInt8) (b : Ty.D tBinding) : Bool := decide (b.1 = s)
def mStep (b : List (Ty.D tBinding)) (s v : List UInt8) : Option (List (Ty.D tBinding)) :=
 if s = [42] then some b else if isVar s = true then (match b.find? (letterIs s) with | none => some (b ++ [(s, v)]) | some kv => if kv.2 = v then some b else none) else if s = v then some b else none
def mGo : List (List UInt8) → List (List UInt8) → List (Ty.D tBinding) → Option (List (Ty.D tBinding))
 | [], ns, b => if ns = [] then some b else none
 | s :: ps, ns, b => if s = [42, 42] then some b else match ns with | [] => none | v :: vs => match mStep b s v with | none => none | some b' => mGo ps vs b'
theorem mGo_cons (s : List UInt8) (ps ns : List (List UInt8)) (b : List (Ty.D tBinding)) : mGo (s :: ps) ns b = if s = [42, 42] then some b else match ns with | [] => none | v :: vs => match mStep b s v with | none => none | some b' => mGo ps vs b' := by cases ns <;> rfl
theorem mGo_nil (ns : List (List UInt8)) (b : List (Ty.D tBinding)) : mGo [] ns b = if ns = [] then some b else none := rfl
def f_Match (p n : List (List UInt8)) (l : List (Ty.D tBinding)) : List (Ty.D tBinding) × Bool :=
 if (validPat p && validName n) = true then (match mGo p n l with | some b => (b, true) | none => (l, false)) else (l, false)
theorem mGo_star {p n : List (List UInt8)} {acc : List (Ty.D tBinding)} {k : Nat} (h : k < p.length) (hs : p[k] = [42, 42]) : mGo (p.drop k) (n.drop k) acc = some acc := by
 rw [List.drop_eq_getElem_cons h, mGo_cons, if_pos hs]
theorem mGo_short {p n : List (List UInt8)} {acc : List (Ty.D tBinding)} {k : Nat} (h : k < p.length) (hs : ¬ p[k] = [42, 42]) (hn : n.length ≤ k) : mGo (p.drop k) (n.drop k) acc = none := by
 rw [List.drop_eq_getElem_cons h, mGo_cons, if_neg hs, List.drop_eq_nil_of_le hn]
theorem mGo_none {p n : List (List UInt8)} {acc : List (Ty.D tBinding)} {k : Nat} (h : k < p.length) (hs : ¬ p[k] = [42, 42]) (hn : k < n.length) (hm : mStep acc p[k] n[k] = none) : mGo (p.drop k) (n.drop k) acc = none := by
 rw [List.drop_eq_getElem_cons h, mGo_cons, if_neg hs, List.drop_eq_getElem_cons hn]; simp only [hm]
theorem mGo_step {p n : List (List UInt8)} {acc b : List (Ty.D tBinding)} {k : Nat} (h : k < p.length) (hs : ¬ p[k] = [42, 42]) (hn : k < n.length) (hm : mStep acc p[k] n[k] = some b) : mGo (p.drop k) (n.drop k) acc = mGo (p.drop (k + 1)) (n.drop (k + 1)) b := by
 rw [List.drop_eq_getElem_cons h, mGo_cons, if_neg hs, List.drop_eq_getElem_cons hn]; simp only [hm]
theorem mGo_end {p n : List (List UInt8)} {acc : List (Ty.D tBinding)} {k : Nat} (h : k = p.length) (hn : n.length = p.length) : mGo (p.drop k) (n.drop k) acc = some acc := by
 rw [List.drop_eq_nil_of_le b_22, List.drop_eq_nil_of_le b_22, mGo_nil, if_pos rfl]
theorem mGo_more {p n : List (List UInt8)} {acc : List (Ty.D tBinding)} {k : Nat} (h : k = p.length) (hn : p.length < n.length) : mGo (p.drop k) (n.drop k) acc = none := by
 rw [List.drop_eq_nil_of_le b_22, mGo_nil, if_neg]
 intro h0
 have := congrArg List.length h0
 rw [List.length_drop] at this; simp at this; omega
theorem mStep_any {b : List (Ty.D tBinding)} {s v : List UInt8} (h : s = [42]) : mStep b s v = some b := by unfold mStep; rw [if_pos h]
theorem mStep_new {b : List (Ty.D tBinding)} {s v : List UInt8} (h : ¬ s = [42]) (hv : isVar s = true) (hf : b.find? (letterIs s) = none) : mStep b s v = some (b ++ [(s, v)]) := by
 unfold mStep; rw [if_neg h, if_pos hv, hf]
theorem mStep_eq {b : List (Ty.D tBinding)} {s v : List UInt8} {kv : Ty.D tBinding} (h : ¬ s = [42]) (hv : isVar s = true) (hf : b.find? (letterIs s) = some kv) (he : kv.2 = v) : mStep b s v = some b := by
 unfold mStep; rw [if_neg h, if_pos hv, hf]; exact if_pos he
theorem mStep_ne {b : List (Ty.D tBinding)} {s v : List UInt8} {kv : Ty.D tBinding} (h : ¬ s = [42]) (hv : isVar s = true) (hf : b.find? (letterIs s) = some kv) (he : ¬ kv.2 = v) : mStep b s v = none := by
 unfold mStep; rw [if_neg h, if_pos hv, hf]; exact if_neg he
theorem mStep_lit {b : List (Ty.D tBinding)} {s v : List UInt8} (h : ¬ s = [42]) (hv : isVar s = false) (he : s = v) : mStep b s v = some b := by
 unfold mStep; rw [if_neg h, if_neg (by rw [hv]; simp), if_pos he]
theorem mStep_bad {b : List (Ty.D tBinding)} {s v : List UInt8} (h : ¬ s = [42]) (hv : isVar s = false) (he : ¬ s = v) : mStep b s v = none := by
 unfold mStep; rw [if_neg h, if_neg (by rw [hv]; simp), if_neg he]
theorem mStep_len {b b' : List (Ty.D tBinding)} {s v : List UInt8} (h : mStep b s v = some b') : b'.length ≤ b.length + 1 := by
 unfold mStep at h
 split at h
 ·injection h with h; subst h; omega
 ·split at h
  ·split at h
   ·injection h with h; subst h; simp
   ·split at h
    ·injection h with h; subst h; omega
    ·cases h
  ·split at h
   ·injection h with h; subst h; omega
   ·cases h
theorem mGo_len : ∀ {p n : List (List UInt8)} {b b' : List (Ty.D tBinding)}, mGo p n b = some b' → b'.length ≤ b.length + p.length
 | [], n, b, b', h => by
  rw [mGo_nil] at h
  split at h
  ·injection h with h; subst h; simp
  ·cases h
 | s :: ps, n, b, b', h => by
  rw [mGo_cons] at h
  split at h
  ·injection h with h; subst h; simp
  ·cases n with
   | nil => cases h
   | cons v vs =>
    simp only at h
    cases hm : mStep b s v with
    | none => rw [hm] at h; cases h
    | some b2 =>
     rw [hm] at h
     have h1 := mStep_len hm
     have h2 := mGo_len h
     rw [List.length_cons]; omega
theorem validPat_len {p : List (List UInt8)} (h : validPat p = true) : p.length ≤ 6 := by
 unfold validPat at h; rw [Bool.and_eq_true] at h; simpa using h.2
theorem match_len (p n : List (List UInt8)) (l : List (Ty.D tBinding)) : (f_Match p n l).1.length ≤ l.length + 6 := by
 unfold f_Match
 split
 ·rename_i h
  rw [Bool.and_eq_true] at h
  have := validPat_len h.1
  split
  ·rename_i b hb
   have := mGo_len hb
   show b.length ≤ _; omega
  ·show l.length ≤ _; omega
 ·show l.length ≤ _; omega
def RetBs (w : World) (r : List (Ty.D tBinding) × Bool) (e : Ending) (w' : World) : Prop := ∃ v, e = .returned (.tuple #[v, .bool r.2]) ∧ (Ty.sl tBinding).rd w' [v] r.1 ∧ Below w.heap.size w w'
theorem RetBs.mk {w w' : World} {r : List (Ty.D tBinding) × Bool} {v : Value} {l : List (Ty.D tBinding)} {b : Bool} (hr : r = (l, b)) (h : (Ty.sl tBinding).rd w' [v] l) (hb : Below w.heap.size w w') : RetBs w r (.returned (.tuple #[v, .bool b])) w' := by
 subst hr; exact ⟨v, rfl, h, hb⟩
theorem f_Match_no {p n : List (List UInt8)} (l : List (Ty.D tBinding)) (h : (validPat p && validName n) = false) : f_Match p n l = (l, false) := by unfold f_Match; rw [h]; rfl
theorem f_Match_go {p n : List (List UInt8)} (l : List (Ty.D tBinding)) (h1 : validPat p = true) (h2 : validName n = true) : f_Match p n l = match mGo p n l with | some b => (b, true) | none => (l, false) := by unfold f_Match; rw [h1, h2]; rfl
theorem info_Binding : (Tryz.prog.info? 83).map (fun i => (i.zero, i.size, i.bytes)) = some (some (.agg #[vS [], vS []]), 2, 32) := by kernel_rfl
theorem ow_Binding {w : World} {x : Ty.D tBinding} (h1 : x.1.length ≤ 9223372036854775807) (h2 : x.2.length ≤ 9223372036854775807) : Ty.ow w tBinding [vS x.1, vS x.2] x [] := Ty.rd_ow_flat rfl (rd_Binding_mk h1 h2)
set_option maxHeartbeats 1000000 in
theorem C_Clone_Binding (w : World) (v : Value) (x : List (Ty.D tBinding)) (h : (Ty.sl tBinding).rd w [v] x) (hx : x.length ≤ 1099511627776) : Calls Tryz.prog 61 #[v] w (RetDRow tBinding w 83 x) := by
 obtain ⟨A, c, rfl, hc, hm, hn⟩ := Ty.rd_sl h
 cases A with
 | none =>
  obtain ⟨rfl, rfl⟩ := Ty.rd_nil h
  show Calls Tryz.prog 61 #[.slice none 0 0] w _
  clear h hx hc hm hn
  have q22 : ∀ (w : World) (a : Option Addr) (n c n' c' : Nat), (binOp .eql 62 (.slice a n c) (.slice none n' c')).run Tryz.prog w = .ok (.bool a.isNone) w := fun w a n c n' c' => Lib.run_eql_slice_nil w _ _ a n c n' c' Tryz.underlying62
  go_enter Tryz.func61, Tryz.ntmps61
  go_wp2
  go_ret
  exact ⟨_, rfl, DRow.nil _ _ _ _, Below.refl _ _⟩
 | some a =>
  have q22 : ∀ (w : World) (a : Option Addr) (n c n' c' : Nat), (binOp .eql 62 (.slice a n c) (.slice none n' c')).run Tryz.prog w = .ok (.bool a.isNone) w := fun w a n c n' c' => Lib.run_eql_slice_nil w _ _ a n c n' c' Tryz.underlying62
  go_enter Tryz.func61, Tryz.ntmps61
  set_option maxRecDepth 100000 in go_wp2_with (at_builtin; go_loud (refine wpList_append_drow rfl _ _ 62 rfl (w.alloc (.cells #[] 83)) w.heap.size 83 info_Binding rfl Tryz.underlying62 _ _ [] x rfl rfl (DRow.lit0 tBinding w 83 (Nat.le_refl _)) (Below.refl _ _) (Src.flat rfl (Ty.rd_below b_2 h) _) ?_ ?_ ?_ ?_))
  case refine_1 => simp only [List.length_nil]; omega
  case refine_2 => simp only [List.length_nil]; unfold maxLen; omega
  case refine_3 => simp only [World.size_alloc]; omega
  case refine_4 =>
   intro v' w' hr' hg'
   have hb' : Below w.heap.size w w' := bel_grown b_2 b_16 hg' (fun g hg => by simp [Value.ownBlock] at hg; omega)
   have HR' := Lib.hid hr'
   clear hr'
   go_wp2
   go_ret
   exact ⟨_, rfl, HR'.out, hb'⟩
set_option maxHeartbeats 1000000 in
theorem C_spec_l5Find (w : World) (v : Value) (l : List (Ty.D tBinding)) (s : List UInt8) (h : (Ty.sl tBinding).rd w [v] l) (hs : s.length ≤ 9223372036854775807) :
  Calls Tryz.prog 66 #[v, vS s] w (RetIP w (ixf (letterIs s) l)) := by
 obtain ⟨A, c, rfl, _, _, n0⟩ := Ty.rd_sl h
 go_enter Tryz.func66, Tryz.ntmps66
 go_wp2
 go_loopw [5] (fun i wr => ∃ k : Nat, k ≤ l.length ∧ i = .int .i64 k ∧ (l.take k).any (letterIs s) = false ∧ wr = w) (fun i _ => l.length - (intOf i).toNat)
 case atStart => exact ⟨0, by omega, rfl, by first | rfl | simp, rfl⟩
 case round =>
  obtain ⟨k, hk, rfl, ht, rfl⟩ := hrel
  have HT := Lib.hid ht
  clear ht
  by_cases hlt : k < l.length
  ·have HS := Lib.hid (any_take_succ (letterIs s) l hlt)
   obtain ⟨b, o, ds, rfl, hl, hcell, hrd⟩ := Ty.rd_at h hlt
   obtain ⟨rfl, q1, q2⟩ := rd_Binding hrd
   have e0 : wr.cell? ⟨b, o + k * 2, none⟩ = some (vS l[k].1) := by simpa [Ty.sz] using hcell 0 b_21
   clear hcell hl
   by_cases hq : l[k].1 = s
   ·have HQ := Lib.hid (ixf_hit (letterIs s) l hlt HT.out (by simp [letterIs, hq]))
    have hq2 : (l[k].1 == s) = true := by simp [hq]
    go_wp2
    go_ret
    exact ⟨ret_int HQ.out.symm, rfl⟩
   ·have HQ : Hid (letterIs s l[k] = false) := by show _ = _; simp [letterIs, hq]
    have hq2 : (l[k].1 == s) = false := by simp [hq]
    go_wp2
    exact ⟨⟨k + 1, by omega, by go_num, by rw [HS.out, HT.out, HQ.out]; rfl, by first | rfl | trivial⟩, by simp [intOf]; omega⟩
  ·have HE : Hid (l.any (letterIs s) = false) := by have := HT.out; rwa [List.take_of_length_le b_22] at this
   go_wp2
   go_ret
   exact ⟨ret_int (ixf_miss (letterIs s) l HE.out).symm, rfl⟩
set_option maxHeartbeats 1000000 in
theorem C_impl_Match1 (W : World) (ds : List Value) (d : Ty.D tBinding) (s : List UInt8) (b : Nat) (h1 : tBinding.rd W ds d) (hcell : W.cell? ⟨b, 0, none⟩ = some (vS s)) :
  Calls Tryz.prog 64 #[.agg ds.toArray, .pointer (some ⟨b, 0, none⟩)] W (RetB W (letterIs s d)) := by
 obtain ⟨rfl, q1, q2⟩ := rd_Binding h1
 have hlt : b < W.heap.size := World.block_lt_of_cell? W _ hcell
 by_cases hq : d.1 = s
 ·have HQ : Hid (letterIs s d = true) := by show _ = _; simp [letterIs, hq]
  have hq2 : (d.1 == s) = true := by simp [hq]
  go_enter Tryz.func64, Tryz.ntmps64
  go_wp2
  go_ret
  exact ⟨ret_bool HQ.out.symm, b_2⟩
 ·have HQ : Hid (letterIs s d = false) := by show _ = _; simp [letterIs, hq]
  have hq2 : (d.1 == s) = false := by simp [hq]
  go_enter Tryz.func64, Tryz.ntmps64
  go_wp2
  go_ret
  exact ⟨ret_bool HQ.out.symm, b_2⟩
end Go.Proofs.YtidnahocnhcoiaaGreatDoor
