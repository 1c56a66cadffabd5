/- Texts of this claim, merged by a program: Sp0 Psp Nam Val Ret Int Byt Cpy. -/
import Derived.Test.YtldgbnlcnlfmeaaQhP
import Derived.Test.YtldgbnlcnlfmeaaQh1
import Derived.Test.YtldgbnlcnlfmeaaQh0
import Derived.WalkSpells
import Derived.StillTailTactics
import Derived.WalkLawsBesides
import Derived.Deep.RegionHeld3
import Derived.Shelf.Abstract
import Derived.Lib.SliceRun
import Derived.Laws.Bits128
namespace Go.Proofs.Ytldgbnlcnlfmeaa
open Go.RowKit
set_option linter.unusedVariables false
set_option linter.unusedSimpArgs false
def spl (c : UInt8) : List UInt8 → List (List UInt8)
 | [] => [[]]
 | b :: l => if b = c then [] :: spl c l else match spl c l with
  | h :: t => (b :: h) :: t
  | [] => [[b]]
theorem spl_ne (c : UInt8) (l : List UInt8) : spl c l ≠ [] := by
  cases l with
  | nil => simp [spl]
  | cons b l => unfold spl; split; · simp
                split <;> simp
theorem spl_pos (c : UInt8) (s : List UInt8) : 0 < (spl c s).length := List.length_pos_iff.2 (spl_ne c s)
theorem spl_notin {c : UInt8} : ∀ {a : List UInt8}, c ∉ a → spl c a = [a]
 | [], _ => rfl
 | b :: a, h => by
  have h1 : b ≠ c := fun e => h (by simp [e])
  have h2 : c ∉ a := fun e => h (by simp [e])
  unfold spl; rw [if_neg h1, spl_notin h2]
theorem spl_app {c : UInt8} (r : List UInt8) : ∀ {a : List UInt8}, c ∉ a → spl c (a ++ c :: r) = a :: spl c r
 | [], _ => by show spl c (c :: r) = _; rw [spl]; simp
 | b :: a, h => by
  have h1 : b ≠ c := fun e => h (by simp [e])
  have h2 : c ∉ a := fun e => h (by simp [e])
  show spl c (b :: (a ++ c :: r)) = _
  rw [spl, if_neg h1, spl_app r h2]
def ppS (s : List UInt8) : List (List UInt8) × Bool :=
 if s = [47] then ([], true) else if decide (2 ≤ (spl 47 s).length) && decide ((spl 47 s).head? = some []) && validPat (spl 47 s).tail then ((spl 47 s).tail, true) else ([], false)
def ruleOf (a b : List (List UInt8) × Bool) : tRule.D := (a.1, b.1)
def prS (s : List UInt8) : tRule.D × Bool :=
 if (spl 32 s).length = 3 ∧ (spl 32 s)[1]? = some [60] then
  (if (ppS ((spl 32 s).getD 0 [])).2 && (ppS ((spl 32 s).getD 2 [])).2 && validRule (ruleOf (ppS ((spl 32 s).getD 0 [])) (ppS ((spl 32 s).getD 2 []))) then (ruleOf (ppS ((spl 32 s).getD 0 [])) (ppS ((spl 32 s).getD 2 [])), true) else (([], []), false))
 else (([], []), false)
def pnS (s : List UInt8) : List (List UInt8) × Bool :=
 if s = [47] then ([], true) else if decide (2 ≤ (spl 47 s).length) && decide ((spl 47 s).head? = some []) && validName (spl 47 s).tail then ((spl 47 s).tail, true) else ([], false)
theorem pnS_one {s : List UInt8} (h : s = [47]) : pnS s = ([], true) := by unfold pnS; rw [if_pos h]
theorem pnS_no {s : List UInt8} (h : ¬ s = [47]) (h2 : (decide (2 ≤ (spl 47 s).length) && decide ((spl 47 s).head? = some []) && validName (spl 47 s).tail) = false) : pnS s = ([], false) := by unfold pnS; rw [if_neg h, h2]; rfl
theorem pnS_yes {s : List UInt8} (h : ¬ s = [47]) (h2 : (decide (2 ≤ (spl 47 s).length) && decide ((spl 47 s).head? = some []) && validName (spl 47 s).tail) = true) : pnS s = ((spl 47 s).tail, true) := by unfold pnS; rw [if_neg h, if_pos h2]
def splAt (c : UInt8) (s : List UInt8) (k f : Nat) (acc : List (List UInt8)) : Prop :=
 (k ≤ s.length ∧ f ≤ k ∧ acc.length ≤ k ∧ acc ++ spl c (s.drop f) = spl c s ∧ c ∉ (s.drop f).take (k - f)) ∨ (k = s.length + 1 ∧ f ≤ k ∧ acc.length ≤ k ∧ acc = spl c s)
theorem splAt_start (c : UInt8) (s : List UInt8) : splAt c s 0 0 [] := .inl ⟨by omega, by omega, by simp, by simp, by simp⟩
theorem splAt_no {c : UInt8} {s : List UInt8} {k f : Nat} {acc : List (List UInt8)} (h : splAt c s k f acc) (hk : k < s.length) (hc : ¬ s[k] = c) : splAt c s (k + 1) f acc := by
 rcases h with ⟨h1, h2, h3, h4, h5⟩ | ⟨h1, _⟩
 ·refine .inl ⟨by omega, by omega, by omega, h4, ?_⟩
  have hd : k - f < (s.drop f).length := by rw [List.length_drop]; omega
  rw [show k + 1 - f = (k - f) + 1 from by omega, List.take_succ_eq_append_getElem hd]
  intro hm
  rcases List.mem_append.1 hm with hm | hm
  ·exact h5 hm
  ·have : (s.drop f)[k - f] = s[k] := by rw [List.getElem_drop]; congr 1; omega
   rw [this] at hm
   exact hc (by simpa using (List.mem_singleton.1 hm).symm)
 ·omega
theorem splAt_yes {c : UInt8} {s : List UInt8} {k f : Nat} {acc : List (List UInt8)} (h : splAt c s k f acc) (hk : k < s.length) (hc : s[k] = c) : splAt c s (k + 1) (k + 1) (acc ++ [(s.drop f).take (k - f)]) := by
 rcases h with ⟨h1, h2, h3, h4, h5⟩ | ⟨h1, _⟩
 ·refine .inl ⟨by omega, by omega, by simp; omega, ?_, by simp⟩
  have hd : k - f < (s.drop f).length := by rw [List.length_drop]; omega
  have e : s.drop f = (s.drop f).take (k - f) ++ c :: s.drop (k + 1) := by
   conv => lhs; rw [← List.take_append_drop (k - f) (s.drop f)]
   congr 1
   rw [List.drop_eq_getElem_cons hd, List.drop_drop, List.getElem_drop]
   congr 1
   ·rw [← hc]; congr 1; omega
   ·congr 1; omega
  rw [e, spl_app _ h5] at h4
  rw [← h4, List.append_assoc]; rfl
 ·omega
theorem splAt_end {c : UInt8} {s : List UInt8} {f : Nat} {acc : List (List UInt8)} (h : splAt c s s.length f acc) : splAt c s (s.length + 1) (s.length + 1) (acc ++ [(s.drop f).take (s.length - f)]) := by
 rcases h with ⟨h1, h2, h3, h4, h5⟩ | ⟨h1, _⟩
 ·refine .inr ⟨rfl, by omega, by simp; omega, ?_⟩
  rw [List.take_of_length_le (by rw [List.length_drop]; omega)] at h5 ⊢
  rw [← h4, spl_notin h5]
 ·omega
theorem splAt_bd {c : UInt8} {s : List UInt8} {k f : Nat} {acc : List (List UInt8)} (h : splAt c s k f acc) : k ≤ s.length + 1 ∧ f ≤ k ∧ acc.length ≤ k := by
 rcases h with ⟨h1, h2, h3, _⟩ | ⟨h1, h2, h3, _⟩
 ·exact ⟨by omega, h2, h3⟩
 ·exact ⟨by omega, h2, h3⟩
theorem splAt_done {c : UInt8} {s : List UInt8} {k f : Nat} {acc : List (List UInt8)} (h : splAt c s k f acc) (hk : ¬ k ≤ s.length) : acc = spl c s := by
 rcases h with ⟨h1, _⟩ | ⟨_, _, _, h1⟩
 ·omega
 ·exact h1
theorem run_sub (P : Program) (t : TypeId) (ht : P.underlying t = some .string) (s : List UInt8) (a b : Nat) (h : a ≤ b) (hb : b ≤ s.length) (W : World) :
  (Instr.slice t (.string ⟨s.toArray⟩) (some (.int .i64 a)) (some (.int .i64 b)) none).run P W = .ok (vS ((s.drop a).take (b - a))) W := by
 have := run_slice_string (P := P) W t ⟨s.toArray⟩ .i64 .i64 a b ht b_29 b_29 (by show (b : Int) ≤ (s.toArray.size : Int); simp; omega)
 rw [this]
 show Result.ok (Value.string ((ByteArray.mk s.toArray).extract a b)) W = _
 rw [ByteArray.extract_mk]
set_option maxHeartbeats 4000000 in
theorem C_spec_l4Split (w : World) (s : List UInt8) (c : UInt8) (hs : s.length ≤ 1000000000) :
  Calls Try.prog 170 #[vS s, .int .u8 (c.toNat : Int)] w (RetRow flatS w 9 (spl c s)) := by
 go_enter Try.func170, Try.ntmps170
 go_wp2
 go_loopw [5, 6, 7] (fun vv fr i wr => ∃ (k f : Nat) (acc : List (List UInt8)), i = .int .i64 k ∧ fr = .int .i64 f ∧ Row flatS wr w.heap.size 9 vv acc ∧ Hid (splAt c s k f acc) ∧ Below w.heap.size w wr) (fun _ _ i _ => s.length + 1 - (intOf i).toNat)
 case atStart => exact ⟨0, 0, [], by first | rfl | simp, by first | rfl | simp, Row.lit0 flatS w _ (Nat.le_refl _), Lib.hid (splAt_start c s), b_5⟩
 case round =>
  obtain ⟨k, f, acc, rfl, rfl, hr, hA, hb⟩ := hrel
  have HRow := Lib.hid hr
  obtain ⟨h1, h2, h3⟩ := splAt_bd hA.out
  clear hr
  by_cases hle : k ≤ s.length
  ·have hap : ∀ (W : World), (Instr.slice 9 (.string ⟨s.toArray⟩) (some (.int .i64 f)) (some (.int .i64 k)) none).run Try.prog W = .ok (vS ((s.drop f).take (k - f))) W := fun W => run_sub _ _ Try.underlying9 s f k h2 hle W
   have HX : Hid (((s.drop f).take (k - f)).length ≤ 9223372036854775807) := by unfold Hid; rw [List.length_take, List.length_drop]; omega
   generalize hxx : (s.drop f).take (k - f) = x at hap HX
   have HLX := Lib.hid (Row.lit1 flatS wr 9 x HX.out (Nat.le_refl _))
   by_cases hlt : k < s.length
   ·have HY := Lib.hid (fun hc : s[k] = c => splAt_yes hA.out hlt hc)
    rw [hxx] at HY
    have HN := Lib.hid (fun hc : ¬ s[k] = c => splAt_no hA.out hlt hc)
    have HC : Hid (∀ b : Bool, ((({ data := s.toArray } : ByteArray)[k]'(by show k < s.toArray.size; simpa using hlt)).toNat == (c.toNat : Int)) = b → (b = true → s[k] = c) ∧ (b = false → ¬ s[k] = c)) := by
     intro b hb
     have hb' : ((s[k].toNat : Int) == (c.toNat : Int)) = b := hb
     refine ⟨fun e => ?_, fun e => ?_⟩
     ·subst e; exact UInt8.toNat_inj.1 (by have := beq_iff_eq.1 hb'; omega)
     ·subst e; intro e2; rw [e2] at hb'; simp at hb'
    have hL : (k : Int) ≠ s.length := by omega
    clear hxx
    set_option maxRecDepth 100000 in go_wp2_with (at_builtin; go_loud (refine wpList_append_row rfl _ _ 25 rfl flatS w.heap.size 9 info_str rfl Try.underlying25 _ _ acc [x] rfl rfl (HRow.out.below b_5) (HLX.out.rd b_21) ?_ ?_ ?_ ?_))
    case refine_1 => rw [List.length_singleton]; omega
    case refine_2 => rw [List.length_singleton]; unfold maxLen; omega
    case refine_3 => simp only [World.size_alloc]; have := hb.size; omega
    ·rename_i hh _ hK
     have HY2 := Lib.hid (HY.out ((HC.out _ (hh.resolve_left (by simp; omega))).1 rfl))
     intro v' w' hr' hg'
     have hb' : Below w.heap.size w w' := bel_grown (bel_alloc hb _) (by simp only [World.size_alloc]; have := hb.size; omega) hg' (fun g hg => (HRow.out.block g hg).1)
     have HR' := Lib.hid hr'
     clear hr'
     go_wp2
     go_roundw
     case rel => exact ⟨k + 1, k + 1, acc ++ [x], by go_num, by first | rfl | go_num, HR'.out, Lib.hid HY2.out, hb'⟩
     case measure => simp [intOf] <;> omega
    ·rename_i hh
     have HN2 := Lib.hid (HN.out ((HC.out _ hh.2).2 rfl))
     refine ⟨⟨k + 1, f, acc, by go_num, rfl, HRow.out, Lib.hid HN2.out, hb⟩, ?_⟩
     simp [intOf] <;> omega
   ·obtain rfl : k = s.length := by omega
    have HN := Lib.hid (splAt_end hA.out)
    rw [hxx] at HN
    clear hxx
    set_option maxRecDepth 100000 in go_wp2_with (at_builtin; go_loud (refine wpList_append_row rfl _ _ 25 rfl flatS w.heap.size 9 info_str rfl Try.underlying25 _ _ acc [x] rfl rfl (HRow.out.below b_5) (HLX.out.rd b_21) ?_ ?_ ?_ ?_))
    case refine_1 => rw [List.length_singleton]; omega
    case refine_2 => rw [List.length_singleton]; unfold maxLen; omega
    case refine_3 => simp only [World.size_alloc]; have := hb.size; omega
    intro v' w' hr' hg'
    have hb' : Below w.heap.size w w' := bel_grown (bel_alloc hb _) (by simp only [World.size_alloc]; have := hb.size; omega) hg' (fun g hg => (HRow.out.block g hg).1)
    have HR' := Lib.hid hr'
    clear hr'
    go_wp2
    go_roundw
    case rel => exact ⟨s.length + 1, s.length + 1, acc ++ [x], by go_num, by first | rfl | go_num, HR'.out, Lib.hid HN.out, hb'⟩
    case measure => simp [intOf] <;> omega
  ·have HE := Lib.hid (splAt_done hA.out hle)
   go_wp2
   go_ret
   obtain rfl := HE.out
   exact ⟨_, rfl, HRow.out, hb⟩
end Go.Proofs.Ytldgbnlcnlfmeaa
namespace Go.Proofs.Ytldgbnlcnlfmeaa
open Go.RowKit
set_option linter.unusedVariables false
set_option linter.unusedSimpArgs false
set_option maxHeartbeats 1000000 in
theorem C_slices_Equal_str (w : World) (v1 v2 : Value) (x y : List (List UInt8)) (h1 : (Ty.sl .str).rd w [v1] x) (h2 : (Ty.sl .str).rd w [v2] y) :
  Calls Try.prog 143 #[v1, v2] w (RetB w (decide (x = y))) := by
 obtain ⟨A1, c1, rfl, hc1, hm1, hn1⟩ := Ty.rd_sl h1
 obtain ⟨A2, c2, rfl, hc2, hm2, hn2⟩ := Ty.rd_sl h2
 by_cases hl : x.length = y.length
 ·have q1 : ((x.length : Int) != y.length) = false := by simp [hl]
  have HL := Lib.hid hl
  clear hl
  go_enter Try.func143, Try.ntmps143
  go_wp2
  go_loopw [13] (fun i wr => ∃ k : Nat, k ≤ x.length ∧ i = .int .i64 k ∧ x.take k = y.take k ∧ Below w.heap.size w wr) (fun i _ => x.length - (intOf i).toNat)
  case atStart => exact ⟨0, by omega, rfl, rfl, Below.refl _ _⟩
  case round =>
   obtain ⟨k, hk, rfl, htk, hb⟩ := hrel
   have HT := Lib.hid htk
   clear htk
   by_cases hlt : k < x.length
   ·have hlt2 : k < y.length := by have := HL.out; omega
    obtain ⟨b1, o1, rfl, e1, _⟩ := Ty.rd_str_at (Ty.rd_below hb h1) hlt
    obtain ⟨b2, o2, rfl, e2, _⟩ := Ty.rd_str_at (Ty.rd_below hb h2) hlt2
    by_cases he : x[k] = y[k]
    ·have q2 : (!x[k] == y[k]) = false := by simp [he]
     have HE := Lib.hid he
     clear he
     go_wp2
     go_quiet (fail)
     go_wp2
     go_roundw
     case rel => exact ⟨k + 1, by omega, by go_num, by rw [List.take_succ_eq_append_getElem hlt, List.take_succ_eq_append_getElem hlt2, HT.out, HE.out], bel_drewN hb _⟩
     case measure => simp [intOf]; omega
    ·have q2 : (!x[k] == y[k]) = true := by simp [he]
     have HE : Hid (¬ x = y) := fun h => he (by subst h; rfl)
     clear he
     go_wp2
     go_quiet (fail)
     go_wp2
     go_ret
     exact ⟨ret_bool (by simp [HE.out]), bel_drewN hb _⟩
   ·have HE : Hid (x = y) := by
     have h1 := HT.out
     rwa [List.take_of_length_le b_29, List.take_of_length_le (by have := HL.out; omega)] at h1
    go_wp2
    go_ret
    exact ⟨ret_bool (by simp [HE.out]), hb⟩
 ·have q1 : ((x.length : Int) != y.length) = true := by rw [bne_iff_ne]; omega
  have HE : Hid (¬ x = y) := fun h => hl (congrArg List.length h)
  go_enter Try.func143, Try.ntmps143
  go_wp2
  go_ret
  exact ⟨ret_bool (by simp [HE.out]), Below.refl _ _⟩
def RetBP (w : World) (b : Bool) (e : Ending) (w' : World) : Prop := e = .returned (.bool b) ∧ w' = w
def RetIP (w : World) (b : Int) (e : Ending) (w' : World) : Prop := e = .returned (.int .i64 b) ∧ w' = w
def inR (x a b : Int) : Bool := decide (a ≤ x) && decide (x ≤ b)
set_option maxHeartbeats 400000 in
theorem C_spec_l1In (w : World) (x a b : Int) : Calls Try.prog 110 #[.int .i64 x, .int .i64 a, .int .i64 b] w (RetBP w (inR x a b)) := by
 go_enter Try.func110, Try.ntmps110
 go_wp2
 all_goals go_ret
 all_goals exact ⟨ret_bool (by unfold inR; (rw [Bool.eq_iff_iff]; simp; try omega)), rfl⟩
set_option maxHeartbeats 400000 in
theorem C_impl_InRange (w : World) (x a b : Int) : Calls Try.prog 109 #[.int .i64 x, .int .i64 a, .int .i64 b] w (RetBP w (inR x a b)) := by
 go_enter Try.func109, Try.ntmps109
 go_wp2
 all_goals go_ret
 all_goals exact ⟨ret_bool (by unfold inR; (rw [Bool.eq_iff_iff]; simp; try omega)), rfl⟩
theorem okByte_iff (s : List UInt8) (k : Nat) (h : k < s.length) (c : Int) (hc : c = (s[k].toNat : Int)) : okByte s[k] = true ↔ (97 ≤ c ∧ c ≤ 122) ∨ (48 ≤ c ∧ c ≤ 57) ∨ c = 45 := by
 subst hc; unfold okByte; simp; omega
theorem okByte_no (s : List UInt8) (k : Nat) (h : k < s.length) (c : Int) (hc : c = (s[k].toNat : Int)) (hn : ¬ ((97 ≤ c ∧ c ≤ 122) ∨ (48 ≤ c ∧ c ≤ 57) ∨ c = 45)) : okByte s[k] = false := by
 cases hq : okByte s[k]
 ·rfl
 ·exact absurd ((okByte_iff s k h c hc).1 hq) hn
theorem bytes_at (s : List UInt8) (k : Nat) (h : k < s.length) (h2 : k < ({ data := s.toArray } : ByteArray).size) : ((({ data := s.toArray } : ByteArray)[k].toNat : Nat) : Int) = (s[k].toNat : Int) := rfl
set_option maxHeartbeats 1000000 in
theorem C_impl_ValidPart (w : World) (s : List UInt8) (hs : s.length ≤ 9223372036854775807) : Calls Try.prog 162 #[vS s] w (RetBP w (validPart s)) := by
  go_enter Try.func162, Try.ntmps162
  go_wp2
  go_loopw [7] (fun i wr => ∃ k : Nat, k ≤ s.length ∧ i = .int .i64 k ∧ (s.take k).all okByte = true ∧ wr = w) (fun i _ => s.length - (intOf i).toNat)
  case atStart => exact ⟨0, by omega, by first | rfl | simp, rfl, rfl⟩
  case round =>
    obtain ⟨k, hk, rfl, ht, rfl⟩ := hrel
    have HT := Lib.hid ht
    clear ht
    by_cases hlt : k < s.length
    · have hs1 := all_take_succ okByte s hlt
      have HS := Lib.hid hs1
      clear hs1
      go_wp2
      all_goals (try simp only [Bool.not_eq_false', decide_eq_true_eq, beq_iff_eq, Bool.not_eq_true', decide_eq_false_iff_not, beq_eq_false_iff_ne, ne_eq] at *)
      all_goals first
        | (go_ret
           exact ⟨ret_bool (by unfold validPart; rw [all_false_of okByte s hlt (okByte_no s k hlt _ (bytes_at s k hlt hlt) b_29)]; rfl), rfl⟩)
        | exact ⟨⟨k + 1, by omega, by go_num, by rw [HS.out, HT.out, (okByte_iff s k hlt _ (bytes_at s k hlt hlt)).2 b_29]; rfl, by first | rfl | trivial⟩, by simp [intOf]; omega⟩
    · have HE : Hid (s.all okByte = true) := by have := HT.out; rwa [List.take_of_length_le b_29] at this
      go_wp2_with fail
      refine (C_impl_InRange _ _ _ _).mono ?_
      rintro e w1 ⟨rfl, rfl⟩
      go_wp2
      go_ret
      exact ⟨ret_bool (by unfold validPart inR; rw [HE.out]; (rw [Bool.eq_iff_iff]; simp; try omega)), rfl⟩
set_option maxHeartbeats 400000 in
theorem C_impl_ValidName1 (w : World) (s : List UInt8) (hs : s.length ≤ 9223372036854775807) : Calls Try.prog 161 #[vS s] w (RetBP w (!validPart s)) := by
 go_enter Try.func161, Try.ntmps161
 go_wp2_with fail
 refine (C_impl_ValidPart _ _ hs).mono ?_
 rintro e w1 ⟨rfl, rfl⟩
 go_wp2
 go_ret
 exact ⟨rfl, rfl⟩
set_option maxHeartbeats 1000000 in
theorem C_spec_ValidPart (w : World) (s : List UInt8) (hs : s.length ≤ 9223372036854775807) : Calls Try.prog 167 #[vS s] w (RetBP w (validPart s)) := by
 go_enter Try.func167, Try.ntmps167
 go_wp2_with fail
 refine (C_spec_l1In _ _ _ _).mono ?_
 rintro e w1 ⟨rfl, rfl⟩
 cases hq : inR s.length 1 8
 ·go_wp2
  go_ret
  exact ⟨ret_bool (by unfold validPart; unfold inR at hq; rw [show (decide (1 ≤ s.length) && decide (s.length ≤ 8)) = false from by (rw [Bool.eq_iff_iff] at hq ⊢; simp at hq ⊢; omega)]; simp), rfl⟩
 have HL := Lib.hid hq
 go_wp2
 go_loopw [3] (fun i wr => ∃ k : Nat, k ≤ s.length ∧ i = .int .i64 k ∧ (s.take k).all okByte = true ∧ wr = w1) (fun i _ => s.length - (intOf i).toNat)
 case atStart => exact ⟨0, by omega, by first | rfl | simp, rfl, rfl⟩
 case round =>
  obtain ⟨k, hk, rfl, ht, rfl⟩ := hrel
  have HT := Lib.hid ht
  clear ht
  by_cases hlt : k < s.length
  ·have hs1 := all_take_succ okByte s hlt
   have HS := Lib.hid hs1
   clear hs1
   have HR : Hid (∀ c : Int, c = (s[k].toNat : Int) → okByte s[k] = (inR c 97 122 || inR c 48 57 || decide (c = 45))) := fun c hc => by
    subst hc; unfold okByte inR; (rw [Bool.eq_iff_iff]; simp; omega)
   go_wp2_with fail
   have hr := HR.out _ (bytes_at s k hlt hlt)
   have hcb : 0 ≤ (s[k].toNat : Int) ∧ (s[k].toNat : Int) ≤ 255 := by have := UInt8.toNat_lt s[k]; omega
   rw [← bytes_at s k hlt hlt] at hcb
   generalize ((({ data := s.toArray } : ByteArray)[k]'hlt).toNat : Int) = c at hr hcb ⊢
   have hwc : wrap64 c = c := by unfold wrap64; omega
   try rw [hwc]
   refine (C_spec_l1In _ c _ _).mono ?_
   rintro e w2 ⟨rfl, rfl⟩
   cases h1 : inR c 97 122
   ·go_wp2_with fail
    try rw [hwc]
    refine (C_spec_l1In _ c _ _).mono ?_
    rintro e w3 ⟨rfl, rfl⟩
    cases h2 : inR c 48 57
    ·by_cases h3 : c = 45
     ·have q3 : (c != 45) = false := by simp [h3]
      have HC := Lib.hid (show okByte s[k] = true from by rw [hr, h1, h2]; simp [h3])
      clear h3 hr
      go_wp2
      go_roundw
      case rel => exact ⟨k + 1, by omega, by go_num, by rw [HS.out, HT.out, HC.out]; rfl, by first | rfl | trivial⟩
      case measure => simp [intOf]; omega
     ·have q3 : (c != 45) = true := by simp [h3]
      have HC := Lib.hid (show okByte s[k] = false from by rw [hr, h1, h2]; simp [h3])
      clear h3 hr
      go_wp2
      go_ret
      exact ⟨ret_bool (by unfold validPart; rw [all_false_of okByte s hlt HC.out]; rfl), rfl⟩
    ·have HC := Lib.hid (show okByte s[k] = true from by rw [hr, h1, h2]; simp)
     clear hr
     go_wp2
     go_roundw
     case rel => exact ⟨k + 1, by omega, by go_num, by rw [HS.out, HT.out, HC.out]; rfl, by first | rfl | trivial⟩
     case measure => simp [intOf]; omega
   ·have HC := Lib.hid (show okByte s[k] = true from by rw [hr, h1]; simp)
    clear hr
    go_wp2
    go_roundw
    case rel => exact ⟨k + 1, by omega, by go_num, by rw [HS.out, HT.out, HC.out]; rfl, by first | rfl | trivial⟩
    case measure => simp [intOf]; omega
  ·have HE : Hid (s.all okByte = true) := by have := HT.out; rwa [List.take_of_length_le b_29] at this
   go_wp2
   go_ret
   exact ⟨ret_bool (by unfold validPart; rw [HE.out]; have := HL.out; unfold inR at this; simp at this ⊢; omega), rfl⟩
set_option maxHeartbeats 1000000 in
theorem C_spec_ValidName (w : World) (cs : List Value) (x : List (List UInt8)) (h : (Ty.sl .str).rd w cs x) :
  Calls Try.prog 133 #[.agg cs.toArray] w (RetB w (validName x)) := by
 obtain ⟨A, c, rfl⟩ := Ty.rd_slv h
 obtain ⟨_, _, _, hcc, hmm, hn⟩ := Ty.rd_sl h
 go_enter Try.func133, Try.ntmps133
 go_wp2
 go_loopw [3] (fun i wr => ∃ k : Nat, k ≤ x.length ∧ i = .int .i64 k ∧ (x.take k).all validPart = true ∧ Below (w.alloc (.cells #[.slice A x.length c] 27)).heap.size (w.alloc (.cells #[.slice A x.length c] 27)) wr) (fun i _ => x.length - (intOf i).toNat)
 case atStart => exact ⟨0, by omega, rfl, by first | rfl | simp, Below.refl _ _⟩
 case round =>
  obtain ⟨k, hk, rfl, ht, hb⟩ := hrel
  have hw : Below w.heap.size w wr := bel_trans b_5 hb
  obtain ⟨hc, hf⟩ := bcell hb
  have HT := Lib.hid ht
  clear ht
  by_cases hlt : k < x.length
  ·have HS := Lib.hid (all_take_succ validPart x hlt)
   obtain ⟨b, o, rfl, e0, n0⟩ := Ty.rd_str_at (Ty.rd_below hw h) hlt
   go_wp2_with fail
   refine (C_spec_ValidPart _ _ n0).mono ?_
   rintro e w2 ⟨rfl, rfl⟩
   cases hq : validPart x[k]
   ·go_wp2
    go_ret
    exact ⟨ret_bool (by unfold validName; rw [all_false_of validPart x hlt hq]; rfl), hw⟩
   ·have HQ := Lib.hid hq
    go_wp2
    go_roundw
    case rel => exact ⟨k + 1, by omega, by go_num, by rw [HS.out, HT.out, HQ.out]; rfl, hb⟩
    case measure => simp [intOf]; omega
  ·have HE : Hid (x.all validPart = true) := by have := HT.out; rwa [List.take_of_length_le b_29] at this
   go_wp2
   go_ret
   exact ⟨ret_bool (by unfold validName; rw [HE.out]; (rw [Bool.eq_iff_iff]; simp; try omega)), hw⟩
def ixf {α : Type} (p : α → Bool) (x : List α) : Int := match x.findIdx? p with | some k => (k : Int) | none => -1
theorem ixf_hit {α : Type} (p : α → Bool) (x : List α) {k : Nat} (h : k < x.length) (ht : (x.take k).any p = false) (hp : p x[k] = true) : ixf p x = k := by
 unfold ixf
 rw [List.findIdx?_eq_some_iff_getElem.2 ⟨h, hp, fun j hj => by
  have := List.any_eq_false.1 ht ((x.take k)[j]'(by rw [List.length_take]; omega)) (List.getElem_mem _)
  rw [List.getElem_take] at this; exact this⟩]
theorem ixf_miss {α : Type} (p : α → Bool) (x : List α) (ht : x.any p = false) : ixf p x = -1 := by
 unfold ixf
 rw [List.findIdx?_eq_none_iff.2 (fun a ha => by simpa using List.any_eq_false.1 ht a ha)]
theorem ixf_ge {α : Type} (p : α → Bool) (x : List α) : decide (ixf p x ≥ 0) = x.any p := by
 unfold ixf
 cases hq : x.findIdx? p with
 | none => rw [List.findIdx?_eq_none_iff] at hq; symm; simp; exact hq
 | some k => rw [List.findIdx?_eq_some_iff_getElem] at hq; obtain ⟨h, hp, _⟩ := hq; symm; simp; exact ⟨x[k], List.getElem_mem h, hp⟩
set_option maxHeartbeats 1000000 in
theorem C_IndexFunc_str (w : World) (v : Value) (x : List (List UInt8)) (p : List UInt8 → Bool) (g : Nat) (lb : Array Value) (eg : ∀ args w, (callFunc g args).run Try.prog w = .ok (.enter g args) w)
  (h : (Ty.sl .str).rd w [v] x) (hp : ∀ (W : World) (s : List UInt8), s.length ≤ 9223372036854775807 → Below w.heap.size w W → Calls Try.prog g (#[vS s] ++ lb) W (RetB W (p s))) :
  Calls Try.prog 178 #[v, .func (.func g) #[] lb] w (RetI w (ixf p x)) := by
 obtain ⟨A, c, rfl, hc, hm, hn⟩ := Ty.rd_sl h
 have HP := Lib.hid hp
 clear hp
 go_enter Try.func178, Try.ntmps178
 go_wp2
 go_loopw [8] (fun i wr => ∃ k : Nat, k ≤ x.length ∧ i = .int .i64 k ∧ (x.take k).any p = false ∧ Below w.heap.size w wr) (fun i _ => x.length - (intOf i).toNat)
 case atStart => exact ⟨0, by omega, by first | rfl | simp, by first | rfl | simp, Below.refl _ _⟩
 case round =>
  obtain ⟨k, hk, rfl, ht, hb⟩ := hrel
  have HT := Lib.hid ht
  clear ht
  by_cases hlt : k < x.length
  ·have HS := Lib.hid (any_take_succ p x hlt)
   obtain ⟨b, o, rfl, e0, n0⟩ := Ty.rd_str_at (Ty.rd_below hb h) hlt
   have hcall := HP.out wr x[k] n0 hb
   cases hq : p x[k]
   ·have HQ := Lib.hid hq
    rw [hq] at hcall
    go_wp2_with (go_at_fn g; refine hcall.mono ?_; rintro e w' ⟨rfl, hb'⟩)
    go_roundw
    case rel => exact ⟨k + 1, by omega, by go_num, by rw [HS.out, HT.out, HQ.out]; rfl, bel_trans hb hb'⟩
    case measure => simp [intOf]; omega
   ·have HQ := Lib.hid hq
    rw [hq] at hcall
    go_wp2_with (go_at_fn g; refine hcall.mono ?_; rintro e w' ⟨rfl, hb'⟩)
    go_ret
    exact ⟨ret_int (ixf_hit p x hlt HT.out HQ.out).symm, bel_trans hb hb'⟩
  ·have HE : Hid (x.any p = false) := by have := HT.out; rwa [List.take_of_length_le b_29] at this
   go_wp2
   go_ret
   exact ⟨ret_int (ixf_miss p x HE.out).symm, hb⟩
set_option maxHeartbeats 1000000 in
theorem C_ContainsFunc_str (w : World) (v : Value) (x : List (List UInt8)) (p : List UInt8 → Bool) (g : Nat) (lb : Array Value) (eg : ∀ args w, (callFunc g args).run Try.prog w = .ok (.enter g args) w)
  (h : (Ty.sl .str).rd w [v] x) (hp : ∀ (W : World) (s : List UInt8), s.length ≤ 9223372036854775807 → Below w.heap.size w W → Calls Try.prog g (#[vS s] ++ lb) W (RetB W (p s))) :
  Calls Try.prog 160 #[v, .func (.func g) #[] lb] w (RetB w (x.any p)) := by
 have hcall := C_IndexFunc_str w v x p g lb eg h hp
 go_enter Try.func160, Try.ntmps160
 go_wp2_with fail
 refine hcall.mono ?_
 rintro e w1 ⟨rfl, hb⟩
 go_wp2
 go_ret
 exact ⟨ret_bool (ixf_ge p x), hb⟩
set_option maxHeartbeats 1000000 in
theorem C_impl_ValidName (w : World) (cs : List Value) (x : List (List UInt8)) (h : (Ty.sl .str).rd w cs x) :
  Calls Try.prog 113 #[.agg cs.toArray] w (RetB w (validName x)) := by
 obtain ⟨A, c, rfl⟩ := Ty.rd_slv h
 by_cases hl : x.length ≤ 6
 ·have HL := Lib.hid hl
  go_enter Try.func113, Try.ntmps113
  go_wp2_with fail
  refine (C_ContainsFunc_str _ _ x (fun s => !validPart s) 161 #[] (enters_of Try.func161 b_27 rfl) (Ty.rd_below b_5 h) (fun W s hs _ => by rw [Array.append_empty]; refine (C_impl_ValidName1 W s hs).mono ?_; rintro e w' ⟨rfl, rfl⟩; exact ⟨rfl, Below.refl _ _⟩)).mono ?_
  rintro e w1 ⟨rfl, hb⟩
  have hw1 : Below w.heap.size w w1 := bel_trans b_5 hb
  go_wp2
  go_ret
  exact ⟨ret_bool (by unfold validName; have := HL.out; (rw [Bool.eq_iff_iff]; simp; try omega)), hw1⟩
 ·have HL := Lib.hid hl
  go_enter Try.func113, Try.ntmps113
  go_wp2
  go_ret
  exact ⟨ret_bool (by unfold validName; have := HL.out; (rw [Bool.eq_iff_iff]; simp; try omega)), b_5⟩
def RetSl3 (w : World) (t : Ty) (x : List t.D) (u u2 : Value) (e : Ending) (w' : World) : Prop :=
 ∃ A c fp, e = .returned (.tuple #[.slice A x.length c, u, u2]) ∧ (Ty.sl t).ow w' [.slice A x.length c] x fp ∧ Fr w w' fp ∧ Below w.heap.size w w'
def RetAgg2 (w : World) (t : Ty) (x : t.D) (u : Value) (e : Ending) (w' : World) : Prop :=
 ∃ cs fp, e = .returned (.tuple #[.agg cs.toArray, u]) ∧ t.ow w' cs x fp ∧ Fr w w' fp ∧ Below w.heap.size w w'
def RetAgg3 (w : World) (t : Ty) (x : t.D) (u u2 : Value) (e : Ending) (w' : World) : Prop :=
 ∃ cs fp, e = .returned (.tuple #[.agg cs.toArray, u, u2]) ∧ t.ow w' cs x fp ∧ Fr w w' fp ∧ Below w.heap.size w w'
theorem rd_ow_nil (w : World) (e : Ty) : (Ty.sl e).ow w [.slice none 0 0] [] [] := ⟨none, 0, rfl, Nat.le_refl _, ⟨Nat.zero_le _, fun _ => rfl⟩, by simp, .inl ⟨rfl, rfl⟩⟩
theorem infoI : (Try.prog.info? 3).map (fun i => (i.zero, i.size, i.bytes)) = some (some (.int .i64 0), 1, 8) := by kernel_rfl
theorem infoB : (Try.prog.info? 5).map (fun i => (i.zero, i.size, i.bytes)) = some (some (.int .u8 0), 1, 1) := by kernel_rfl
def modP (n : Int) : Int := (n.tmod 2147483647 + 2147483647).tmod 2147483647
theorem tmodP_bd (n : Int) : -2147483647 < n.tmod 2147483647 ∧ n.tmod 2147483647 < 2147483647 := by
 have h1 := Int.tmod_lt_of_pos n (show (0 : Int) < 2147483647 by decide)
 refine ⟨?_, h1⟩
 rcases Int.le_total 0 n with h | h
 ·have := Int.tmod_nonneg 2147483647 h; omega
 ·have h3 := Int.tmod_lt_of_pos (-n) (show (0 : Int) < 2147483647 by decide)
  rw [Int.neg_tmod] at h3; omega
theorem modP_wrap (n : Int) : (wrap64 (n.tmod 2147483647 + 2147483647)).tmod 2147483647 = modP n := by
 unfold modP; rw [show wrap64 (n.tmod 2147483647 + 2147483647) = n.tmod 2147483647 + 2147483647 from by have := tmodP_bd n; unfold wrap64; omega]
theorem okI {n : Int} (h1 : -9223372036854775808 ≤ n) (h2 : n ≤ 9223372036854775807) : flatI.ok n := ⟨h1, h2⟩
theorem modP_le (n : Int) : 0 ≤ modP n ∧ modP n < 2147483647 := by
 unfold modP
 have h1 := Int.tmod_lt_of_pos n (show (0 : Int) < 2147483647 by decide)
 have h2 : -2147483647 < n.tmod 2147483647 := by
  rcases Int.le_total 0 n with h | h
  ·have := Int.tmod_nonneg 2147483647 h; omega
  ·have h3 := Int.tmod_lt_of_pos (-n) (show (0 : Int) < 2147483647 by decide)
   rw [Int.neg_tmod] at h3; omega
 exact ⟨Int.tmod_nonneg _ b_29, Int.tmod_lt_of_pos _ b_28⟩
def digest (l : List Int) : Int := l.foldl (fun d x => (d * 1000003 + modP x + 13).tmod 2147483647) 11
theorem digest_le (l : List Int) : 0 ≤ digest l ∧ digest l < 2147483647 := by
 unfold digest
 have : ∀ (l : List Int) (d : Int), 0 ≤ d ∧ d < 2147483647 → 0 ≤ l.foldl (fun d x => (d * 1000003 + modP x + 13).tmod 2147483647) d ∧ l.foldl (fun d x => (d * 1000003 + modP x + 13).tmod 2147483647) d < 2147483647 := by
  intro l
  induction l with
  | nil => exact fun d h => h
  | cons a l ih =>
   intro d h
   have hm := modP_le a
   exact ih _ ⟨Int.tmod_nonneg _ b_29, Int.tmod_lt_of_pos _ b_28⟩
 exact this l 11 b_29
def pre (n : Int) (y : List UInt8) : List Int := n :: y.map fun c => (c.toNat : Int)
def bti (x : List UInt8) : List Int := pre x.length x
theorem pre_take (n : Int) (y : List UInt8) {k : Nat} (h : k < y.length) : pre n (y.take (k + 1)) = pre n (y.take k) ++ [(y[k].toNat : Int)] := by
 unfold pre; rw [List.take_succ_eq_append_getElem h, List.map_append]; rfl
theorem pre_len (n : Int) (y : List UInt8) : (pre n y).length = y.length + 1 := by simp [pre]
theorem digest_take (l : List Int) {k : Nat} (h : k < l.length) : digest (l.take (k + 1)) = (digest (l.take k) * 1000003 + modP l[k] + 13).tmod 2147483647 := by
 unfold digest
 rw [List.take_succ_eq_append_getElem h, List.foldl_append]; rfl
set_option maxHeartbeats 400000 in
theorem C_spec_ModP (w : World) (n : Int) (hn : -9223372036854775808 ≤ n ∧ n ≤ 9223372036854775807) : Calls Try.prog 179 #[.int .i64 n, .int .i64 2147483647] w (RetIP w (modP n)) := by
 go_enter Try.func179, Try.ntmps179
 go_wp2_with fail
 refine (C_spec_l1In _ _ _ _).mono ?_
 rintro e w1 ⟨rfl, rfl⟩
 have hq : inR 2147483647 1 1000000000000 = true := by decide
 rw [hq]
 clear hq
 go_wp2
 go_ret
 exact ⟨ret_int (modP_wrap n), rfl⟩
set_option maxHeartbeats 1000000 in
theorem C_spec_Digest (w : World) (v : Value) (x : List Int) (h : (Ty.sl .int).rd w [v] x) : Calls Try.prog 166 #[v] w (RetI w (digest x)) := by
 obtain ⟨A, c, rfl, hc, hm, hn⟩ := Ty.rd_sl h
 go_enter Try.func166, Try.ntmps166
 go_wp2
 go_loopw [3, 4] (fun d i wr => ∃ k : Nat, k ≤ x.length ∧ i = .int .i64 k ∧ d = .int .i64 (digest (x.take k)) ∧ Below w.heap.size w wr) (fun _ i _ => x.length - (intOf i).toNat)
 case atStart => exact ⟨0, by omega, rfl, rfl, Below.refl _ _⟩
 case round =>
  obtain ⟨k, hk, rfl, rfl, hb⟩ := hrel
  by_cases hlt : k < x.length
  ·obtain ⟨b, o, rfl, e0, n0⟩ := Ty.rd_int_at (Ty.rd_below hb h) hlt
   have HD := Lib.hid (digest_take x hlt)
   have hd := digest_le (x.take k)
   have hm1 := modP_le x[k]
   generalize digest (x.take k) = D at HD hd ⊢
   go_wp2_with fail
   refine (C_spec_ModP _ _ n0).mono ?_
   rintro e w1 ⟨rfl, rfl⟩
   generalize modP x[k] = M at HD hm1 ⊢
   go_wp2
   go_roundw
   case rel => exact ⟨k + 1, by omega, by go_num, by rw [HD.out, Int.tmod_eq_emod_of_nonneg b_29], hb⟩
   case measure => simp [intOf]; omega
  ·have HE : Hid (digest (x.take k) = digest x) := by rw [List.take_of_length_le b_29]; exact rfl
   go_wp2
   go_ret
   exact ⟨ret_int HE.out, hb⟩
set_option maxHeartbeats 1000000 in
theorem C_spec_BytesToInts (w : World) (v : Value) (x : List UInt8) (h : (Ty.sl .byte).rd w [v] x) (hx : x.length ≤ 1099511627776) : Calls Try.prog 136 #[v] w (RetRow flatI w 3 (bti x)) := by
 obtain ⟨A, c, rfl, hc, hm, hn⟩ := Ty.rd_sl h
 go_enter Try.func136, Try.ntmps136
 go_wp2
 go_loopw [3, 4] (fun l i wr => ∃ k : Nat, k ≤ x.length ∧ i = .int .i64 k ∧ Row flatI wr w.heap.size 3 l (pre x.length (x.take k)) ∧ Below w.heap.size w wr) (fun _ i _ => x.length - (intOf i).toNat)
 case atStart => exact ⟨0, by omega, rfl, Row.lit1 flatI w 3 (x.length : Int) (okI b_29 b_29) (Nat.le_refl _), b_5⟩
 case round =>
  obtain ⟨k, hk, rfl, hr, hb⟩ := hrel
  by_cases hlt : k < x.length
  ·obtain ⟨b, o, rfl, e0⟩ := Ty.rd_byte_at (Ty.rd_below hb h) hlt
   have HP := Lib.hid (pre_take x.length x hlt)
   have hu := UInt8.toNat_lt x[k]
   have hsz := hb.size
   have HR := Lib.hid hr
   clear hr
   have HL := Lib.hid (show (pre x.length (x.take k)).length = k + 1 from by rw [pre_len, List.length_take]; omega)
   have hw8 : wrap64 (x[k].toNat : Int) = (x[k].toNat : Int) := by unfold wrap64; omega
   set_option maxRecDepth 100000 in go_wp2_with (at_builtin; go_loud (refine wpList_append_row rfl _ _ 92 rfl flatI w.heap.size 3 infoI rfl Try.underlying92 _ _ _ [(x[k].toNat : Int)] rfl rfl (HR.out.below b_5) ((Row.lit1 flatI wr 3 (x[k].toNat : Int) (okI b_29 b_29) (Nat.le_refl _)).rd b_21) ?_ ?_ ?_ ?_))
   case refine_1 => simp only [List.length_cons, List.length_nil, HL.out]; omega
   case refine_2 => simp only [List.length_cons, List.length_nil, HL.out]; unfold maxLen; omega
   case refine_3 => simp only [World.size_alloc]; omega
   case refine_4 =>
    intro v' w' hr' hg'
    have hb' : Below w.heap.size w w' := bel_grown (bel_alloc hb _) b_21 hg' (fun g hg => (HR.out.block g hg).1)
    have HR' := Lib.hid hr'
    clear hr'
    go_wp2
    go_roundw
    case rel => exact ⟨k + 1, by omega, by go_num, by rw [HP.out]; exact HR'.out, hb'⟩
    case measure => simp [intOf]; omega
  ·have HE : Hid (pre x.length (x.take k) = bti x) := by rw [List.take_of_length_le b_29]; exact rfl
   go_wp2
   go_ret
   exact ⟨_, rfl, by rw [← HE.out]; exact hr, hb⟩
set_option maxHeartbeats 400000 in
theorem C_impl_ModP (w : World) (n : Int) (hn : -9223372036854775808 ≤ n ∧ n ≤ 9223372036854775807) : Calls Try.prog 176 #[.int .i64 n, .int .i64 2147483647] w (RetIP w (modP n)) := by
 go_enter Try.func176, Try.ntmps176
 go_wp2_with fail
 refine (C_impl_InRange _ _ _ _).mono ?_
 rintro e w1 ⟨rfl, rfl⟩
 have hq : inR 2147483647 1 1000000000000 = true := by decide
 rw [hq]
 clear hq
 go_wp2
 go_ret
 exact ⟨ret_int (modP_wrap n), rfl⟩
set_option maxHeartbeats 1000000 in
theorem C_impl_Digest (w : World) (v : Value) (x : List Int) (h : (Ty.sl .int).rd w [v] x) : Calls Try.prog 153 #[v] w (RetI w (digest x)) := by
 obtain ⟨A, c, rfl, hc, hm, hn⟩ := Ty.rd_sl h
 go_enter Try.func153, Try.ntmps153
 go_wp2
 go_loopw [3, 8] (fun d i wr => ∃ k : Nat, k ≤ x.length ∧ i = .int .i64 k ∧ d = .int .i64 (digest (x.take k)) ∧ Below w.heap.size w wr) (fun _ i _ => x.length - (intOf i).toNat)
 case atStart => exact ⟨0, by omega, rfl, rfl, Below.refl _ _⟩
 case round =>
  obtain ⟨k, hk, rfl, rfl, hb⟩ := hrel
  by_cases hlt : k < x.length
  ·obtain ⟨b, o, rfl, e0, n0⟩ := Ty.rd_int_at (Ty.rd_below hb h) hlt
   have HD := Lib.hid (digest_take x hlt)
   have hd := digest_le (x.take k)
   have hm1 := modP_le x[k]
   generalize digest (x.take k) = D at HD hd ⊢
   go_wp2_with fail
   refine (C_impl_ModP _ _ n0).mono ?_
   rintro e w1 ⟨rfl, rfl⟩
   generalize modP x[k] = M at HD hm1 ⊢
   go_wp2
   go_roundw
   case rel => exact ⟨k + 1, by omega, by go_num, by rw [HD.out, Int.tmod_eq_emod_of_nonneg b_29], hb⟩
   case measure => simp [intOf]; omega
  ·have HE : Hid (digest (x.take k) = digest x) := by rw [List.take_of_length_le b_29]; exact rfl
   go_wp2
   go_ret
   exact ⟨ret_int HE.out, hb⟩
set_option maxHeartbeats 1000000 in
theorem C_impl_BytesToInts (w : World) (v : Value) (x : List UInt8) (h : (Ty.sl .byte).rd w [v] x) (hx : x.length ≤ 1099511627776) : Calls Try.prog 135 #[v] w (RetRow flatI w 3 (bti x)) := by
 obtain ⟨A, c, rfl, hc, hm, hn⟩ := Ty.rd_sl h
 go_enter Try.func135, Try.ntmps135
 go_wp2
 go_loopw [3, 11] (fun l i wr => ∃ k : Nat, k ≤ x.length ∧ i = .int .i64 k ∧ Row flatI wr w.heap.size 3 l (pre x.length (x.take k)) ∧ Below w.heap.size w wr) (fun _ i _ => x.length - (intOf i).toNat)
 case atStart => exact ⟨0, by omega, rfl, Row.lit1 flatI w 3 (x.length : Int) (okI b_29 b_29) (Nat.le_refl _), b_5⟩
 case round =>
  obtain ⟨k, hk, rfl, hr, hb⟩ := hrel
  by_cases hlt : k < x.length
  ·obtain ⟨b, o, rfl, e0⟩ := Ty.rd_byte_at (Ty.rd_below hb h) hlt
   have HP := Lib.hid (pre_take x.length x hlt)
   have hu := UInt8.toNat_lt x[k]
   have hsz := hb.size
   have HR := Lib.hid hr
   clear hr
   have HL := Lib.hid (show (pre x.length (x.take k)).length = k + 1 from by rw [pre_len, List.length_take]; omega)
   have hw8 : wrap64 (x[k].toNat : Int) = (x[k].toNat : Int) := by unfold wrap64; omega
   set_option maxRecDepth 100000 in go_wp2_with (at_builtin; go_loud (refine wpList_append_row rfl _ _ 92 rfl flatI w.heap.size 3 infoI rfl Try.underlying92 _ _ _ [(x[k].toNat : Int)] rfl rfl (HR.out.below b_5) ((Row.lit1 flatI wr 3 (x[k].toNat : Int) (okI b_29 b_29) (Nat.le_refl _)).rd b_21) ?_ ?_ ?_ ?_))
   case refine_1 => simp only [List.length_cons, List.length_nil, HL.out]; omega
   case refine_2 => simp only [List.length_cons, List.length_nil, HL.out]; unfold maxLen; omega
   case refine_3 => simp only [World.size_alloc]; omega
   case refine_4 =>
    intro v' w' hr' hg'
    have hb' : Below w.heap.size w w' := bel_grown (bel_alloc hb _) b_21 hg' (fun g hg => (HR.out.block g hg).1)
    have HR' := Lib.hid hr'
    clear hr'
    go_wp2
    go_roundw
    case rel => exact ⟨k + 1, by omega, by go_num, by rw [HP.out]; exact HR'.out, hb'⟩
    case measure => simp [intOf]; omega
  ·have HE : Hid (pre x.length (x.take k) = bti x) := by rw [List.take_of_length_le b_29]; exact rfl
   go_wp2
   go_ret
   exact ⟨_, rfl, by rw [← HE.out]; exact hr, hb⟩
theorem C_slices_Clone_byte (w : World) (v : Value) (x : List UInt8) (h : (Ty.sl .byte).rd w [v] x) (hx : x.length ≤ 1099511627776) : Calls Try.prog 157 #[v] w (RetRow flatB w 5 x) := by
 obtain ⟨A, c, rfl, hc, hm, hn⟩ := Ty.rd_sl h
 cases A with
 | none =>
  obtain ⟨rfl, rfl⟩ := Ty.rd_nil h
  show Calls Try.prog 157 #[.slice none 0 0] w _
  clear h hx hc hm hn
  have q22 : ∀ (w : World) (a : Option Addr) (n c n' c' : Nat), (binOp .eql 22 (.slice a n c) (.slice none n' c')).run Try.prog w = .ok (.bool a.isNone) w := fun w a n c n' c' => Lib.run_eql_slice_nil w _ _ a n c n' c' Try.underlying22
  go_enter Try.func157, Try.ntmps157
  go_wp2
  go_ret
  exact ⟨_, rfl, Row.nil _ _ _ _, Below.refl _ _⟩
 | some a =>
  have q22 : ∀ (w : World) (a : Option Addr) (n c n' c' : Nat), (binOp .eql 22 (.slice a n c) (.slice none n' c')).run Try.prog w = .ok (.bool a.isNone) w := fun w a n c n' c' => Lib.run_eql_slice_nil w _ _ a n c n' c' Try.underlying22
  go_enter Try.func157, Try.ntmps157
  set_option maxRecDepth 100000 in go_wp2_with (at_builtin; go_loud (refine wpList_append_row rfl _ _ 22 rfl flatB w.heap.size 5 infoB rfl Try.underlying22 _ _ [] x rfl rfl (Row.lit0 flatB w 5 (Nat.le_refl _)) (Ty.rd_below b_5 h) ?_ ?_ ?_ ?_))
  case refine_1 => simp only [List.length_nil]; omega
  case refine_2 => simp only [List.length_nil]; unfold maxLen; omega
  case refine_3 => simp only [World.size_alloc]; omega
  case refine_4 =>
   intro v' w' hr' hg'
   have hb' : Below w.heap.size w w' := bel_grown b_5 b_21 hg' (fun g hg => by simp [Value.ownBlock] at hg; omega)
   have HR' := Lib.hid hr'
   clear hr'
   go_wp2
   go_ret
   exact ⟨_, rfl, HR'.out, hb'⟩
def hiByte (k : Nat) : UInt8 := UInt8.ofNat (k % 128 + 128)
theorem hiByte_nat (k : Nat) : ((hiByte k).toNat : Int) = ((k % 128 + 128 : Nat) : Int) := by unfold hiByte; rw [UInt8.toNat_ofNat']; omega
def varint (n : Nat) : List UInt8 := if h : n < 128 then [UInt8.ofNat n] else hiByte n :: varint (n / 128)
termination_by n
decreasing_by omega
theorem varint_len (n : Nat) : (varint n).length ≤ n + 1 := by
 induction n using Nat.strongRecOn with
 | _ n ih =>
  rw [varint]
  by_cases h : n < 128
  ·simp [h]
  ·simp only [h, dif_neg, not_false_eq_true, List.length_cons]
   have := ih (n / 128) b_29
   omega
def f_AppendVarint (b : List UInt8) (n : Int) : List UInt8 := if 0 ≤ n ∧ n ≤ 1000000000000 then b ++ varint n.toNat else b
theorem or128 (k : Nat) : bits BinOp.or IntKind.u8 ((k : Int) % 256) 128 = ((k % 128 + 128 : Nat) : Int) := by
 have h : ∀ r : Fin 256, bits BinOp.or IntKind.u8 ((r.val : Nat) : Int) 128 = ((r.val % 128 + 128 : Nat) : Int) := by decide +kernel
 have h2 := h ⟨k % 256, Nat.mod_lt _ b_28⟩
 simp only at h2
 rw [show (k : Int) % 256 = ((k % 256 : Nat) : Int) from rfl, h2]
 omega
theorem or128s (k : Nat) : bits BinOp.or IntKind.i64 (bits BinOp.and IntKind.i64 (k : Int) 127) 128 % 256 = ((k % 128 + 128 : Nat) : Int) := by
 have h : ∀ r : Fin 128, bits BinOp.or IntKind.i64 ((r.val : Nat) : Int) 128 % 256 = ((r.val + 128 : Nat) : Int) := by decide +kernel
 have h2 := h ⟨k % 128, Nat.mod_lt _ b_28⟩
 simp only at h2
 rw [i64_and127, show (k : Int) % 128 = ((k % 128 : Nat) : Int) from rfl, h2]
set_option maxHeartbeats 1000000 in
theorem C_impl_AppendVarint (w : World) (v : Value) (b : List UInt8) (n : Int) (h : (Ty.sl .byte).rd w [v] b) (hx : b.length ≤ 1099511627776) (hi : -9223372036854775808 ≤ n ∧ n ≤ 9223372036854775807) :
  Calls Try.prog 152 #[v, .int .i64 n] w (RetRow flatB w 5 (f_AppendVarint b n)) := by
 go_enter Try.func152, Try.ntmps152
 go_wp2_with fail
 refine (C_slices_Clone_byte _ _ _ h hx).mono ?_
 rintro e w1 ⟨v1, rfl, hr1, hb1⟩
 go_wp2_with fail
 refine (C_impl_InRange _ _ _ _).mono ?_
 rintro e w2 ⟨rfl, rfl⟩
 cases hq : inR n 0 1000000000000
 ·have HQ := Lib.hid hq
  have HR := Lib.hid hr1
  clear hq hr1
  go_wp2
  go_ret
  exact ⟨_, rfl, by unfold f_AppendVarint; rw [if_neg (by have := HQ.out; unfold inR at this; simp at this; omega)]; exact HR.out, hb1⟩
 ·obtain ⟨m, rfl, hm⟩ : ∃ m : Nat, n = m ∧ m ≤ 1000000000000 := ⟨n.toNat, by unfold inR at hq; simp at hq; omega, by unfold inR at hq; simp at hq; omega⟩
  have HR := Lib.hid hr1
  clear hr1
  go_wp2
  go_loopw [1, 5] (fun q l wr => ∃ (k : Nat) (d : List UInt8), k ≤ 1000000000000 ∧ q = .int .i64 k ∧ Row flatB wr w.heap.size 5 l (b ++ d) ∧ d ++ varint k = varint m ∧ Below w.heap.size w wr) (fun q _ _ => (intOf q).toNat)
  case atStart => exact ⟨m, [], hm, rfl, by rw [List.append_nil]; exact HR.out, rfl, hb1⟩
  case round =>
   obtain ⟨k, d, hk, rfl, hr, hd, hb⟩ := hrel
   have hdl := Lib.hid (congrArg List.length hd)
   have HD := Lib.hid hd
   clear hd
   have HR := Lib.hid hr
   clear hr
   by_cases hlt : k < 128
   ·have hkc : (k : Int) < 128 := by omega
    have hv : varint k = [UInt8.ofNat k] := by rw [varint, dif_pos hlt]
    have hu8 : ((UInt8.ofNat k).toNat : Int) = k := by rw [UInt8.toNat_ofNat']; omega
    have HV := Lib.hid hv
    clear hv
    have hlb : d.length + 1 ≤ m + 1 := by have h1 := hdl.out; rw [HV.out, List.length_append] at h1; have := varint_len m; simp at h1; omega
    have hb1 : Row flatB (wr.alloc (.cells #[.int .u8 (k : Int)] 5)) wr.heap.size 5 (.slice (some ⟨wr.heap.size, 0, none⟩) 1 1) [UInt8.ofNat k] := by
     have := Row.lit1 flatB wr 5 (UInt8.ofNat k) trivial (Nat.le_refl _)
     rwa [show flatB.enc (UInt8.ofNat k) = .int .u8 (k : Int) from congrArg (Value.int .u8) hu8] at this
    have HB := Lib.hid hb1
    clear hb1
    have hsz := hb.size
    clear hu8
    set_option maxRecDepth 100000 in go_wp2_with (at_builtin; go_loud (refine wpList_append_row rfl _ _ 22 rfl flatB w.heap.size 5 infoB rfl Try.underlying22 _ _ (b ++ d) [UInt8.ofNat k] rfl rfl (HR.out.below b_5) (HB.out.rd b_21) ?_ ?_ ?_ ?_))
    case refine_1 => simp only [List.length_append, List.length_cons, List.length_nil]; omega
    case refine_2 => simp only [List.length_append, List.length_cons, List.length_nil]; unfold maxLen; omega
    case refine_3 => simp only [World.size_alloc]; omega
    case refine_4 =>
     intro v' w' hr' hg'
     have hb' : Below w.heap.size w w' := bel_grown (bel_alloc hb _) b_21 hg' (fun g hg => (HR.out.block g hg).1)
     have HR' := Lib.hid hr'
     clear hr'
     go_wp2
     go_ret
     exact ⟨_, rfl, by unfold f_AppendVarint; rw [if_pos b_29, show ((m : Int)).toNat = m from rfl, ← HD.out, HV.out]; exact HR'.out, hb'⟩
   ·have hkc : (128 : Int) ≤ k := by omega
    have hv : varint k = hiByte k :: varint (k / 128) := by rw [varint, dif_neg hlt]
    have hu8 := hiByte_nat k
    have HV := Lib.hid hv
    clear hv
    have hlb : d.length + 1 ≤ m + 1 := by have h1 := hdl.out; rw [HV.out, List.length_append] at h1; have := varint_len m; simp at h1; omega
    have hb1 : Row flatB (wr.alloc (.cells #[.int .u8 (bits BinOp.or IntKind.u8 ((k : Int) % 256) 128)] 5)) wr.heap.size 5 (.slice (some ⟨wr.heap.size, 0, none⟩) 1 1) [hiByte k] := by
     have := Row.lit1 flatB wr 5 (hiByte k) trivial (Nat.le_refl _)
     rwa [show flatB.enc (hiByte k) = .int .u8 (bits BinOp.or IntKind.u8 ((k : Int) % 256) 128) from congrArg (Value.int .u8) (hu8.trans (or128 k).symm)] at this
    have HB := Lib.hid hb1
    clear hb1
    have hsz := hb.size
    clear hu8
    set_option maxRecDepth 100000 in go_wp2_with (at_builtin; go_loud (refine wpList_append_row rfl _ _ 22 rfl flatB w.heap.size 5 infoB rfl Try.underlying22 _ _ (b ++ d) [hiByte k] rfl rfl (HR.out.below b_5) (HB.out.rd b_21) ?_ ?_ ?_ ?_))
    case refine_1 => simp only [List.length_append, List.length_cons, List.length_nil]; omega
    case refine_2 => simp only [List.length_append, List.length_cons, List.length_nil]; unfold maxLen; omega
    case refine_3 => simp only [World.size_alloc]; omega
    case refine_4 =>
     intro v' w' hr' hg'
     have hb' : Below w.heap.size w w' := bel_grown (bel_alloc hb _) b_21 hg' (fun g hg => (HR.out.block g hg).1)
     have HR' := Lib.hid hr'
     clear hr'
     go_wp2
     exact ⟨⟨k / 128, d ++ [hiByte k], by omega, by first | rfl | go_num, by exact HR'.out, by rw [List.append_assoc, ← HD.out, HV.out]; rfl, hb'⟩, by simp [intOf]; omega⟩
set_option maxHeartbeats 1000000 in
theorem C_spec_AppendVarint (w : World) (v : Value) (b : List UInt8) (n : Int) (h : (Ty.sl .byte).rd w [v] b) (hx : b.length ≤ 1099511627776) (hi : -9223372036854775808 ≤ n ∧ n ≤ 9223372036854775807) :
  Calls Try.prog 165 #[v, .int .i64 n] w (RetRow flatB w 5 (f_AppendVarint b n)) := by
 go_enter Try.func165, Try.ntmps165
 set_option maxRecDepth 100000 in go_wp2_with (at_builtin; go_loud (refine wpList_append_row rfl _ _ 22 rfl flatB w.heap.size 5 infoB rfl Try.underlying22 _ _ [] b rfl rfl (Row.lit0 flatB w 5 (Nat.le_refl _)) (Ty.rd_below b_5 h) ?_ ?_ ?_ ?_))
 case refine_1 => simp only [List.length_nil]; omega
 case refine_2 => simp only [List.length_nil]; unfold maxLen; omega
 case refine_3 => simp only [World.size_alloc]; omega
 intro v1 w1 hr1 hg1
 have hb1 : Below w.heap.size w w1 := bel_grown b_5 b_21 hg1 (fun g hg => by simp [Value.ownBlock] at hg; omega)
 go_wp2_with fail
 refine (C_spec_l1In _ _ _ _).mono ?_
 rintro e w2 ⟨rfl, rfl⟩
 cases hq : inR n 0 1000000000000
 ·have HQ := Lib.hid hq
  have HR := Lib.hid hr1
  clear hq hr1
  go_wp2
  go_ret
  exact ⟨_, rfl, by unfold f_AppendVarint; rw [if_neg (by have := HQ.out; unfold inR at this; simp at this; omega)]; exact HR.out, hb1⟩
 ·obtain ⟨m, rfl, hm⟩ : ∃ m : Nat, n = m ∧ m ≤ 1000000000000 := ⟨n.toNat, by unfold inR at hq; simp at hq; omega, by unfold inR at hq; simp at hq; omega⟩
  have HR := Lib.hid hr1
  clear hr1
  go_wp2
  go_loopw [1, 5] (fun q l wr => ∃ (k : Nat) (d : List UInt8), k ≤ 1000000000000 ∧ q = .int .i64 k ∧ Row flatB wr w.heap.size 5 l (b ++ d) ∧ d ++ varint k = varint m ∧ Below w.heap.size w wr) (fun q _ _ => (intOf q).toNat)
  case atStart => exact ⟨m, [], hm, rfl, by rw [List.append_nil]; exact HR.out, rfl, hb1⟩
  case round =>
   obtain ⟨k, d, hk, rfl, hr, hd, hb⟩ := hrel
   have hdl := Lib.hid (congrArg List.length hd)
   have HD := Lib.hid hd
   clear hd
   have HR := Lib.hid hr
   clear hr
   by_cases hlt : k < 128
   ·have hkc : (k : Int) < 128 := by omega
    have hv : varint k = [UInt8.ofNat k] := by rw [varint, dif_pos hlt]
    have hu8 : ((UInt8.ofNat k).toNat : Int) = k := by rw [UInt8.toNat_ofNat']; omega
    have HV := Lib.hid hv
    clear hv
    have hlb : d.length + 1 ≤ m + 1 := by have h1 := hdl.out; rw [HV.out, List.length_append] at h1; have := varint_len m; simp at h1; omega
    have hb1 : Row flatB (wr.alloc (.cells #[.int .u8 (k : Int)] 5)) wr.heap.size 5 (.slice (some ⟨wr.heap.size, 0, none⟩) 1 1) [UInt8.ofNat k] := by
     have := Row.lit1 flatB wr 5 (UInt8.ofNat k) trivial (Nat.le_refl _)
     rwa [show flatB.enc (UInt8.ofNat k) = .int .u8 (k : Int) from congrArg (Value.int .u8) hu8] at this
    have HB := Lib.hid hb1
    clear hb1
    have hsz := hb.size
    clear hu8
    set_option maxRecDepth 100000 in go_wp2_with (at_builtin; go_loud (refine wpList_append_row rfl _ _ 22 rfl flatB w.heap.size 5 infoB rfl Try.underlying22 _ _ (b ++ d) [UInt8.ofNat k] rfl rfl (HR.out.below b_5) (HB.out.rd b_21) ?_ ?_ ?_ ?_))
    case refine_1 => simp only [List.length_append, List.length_cons, List.length_nil]; omega
    case refine_2 => simp only [List.length_append, List.length_cons, List.length_nil]; unfold maxLen; omega
    case refine_3 => simp only [World.size_alloc]; omega
    case refine_4 =>
     intro v' w' hr' hg'
     have hb' : Below w.heap.size w w' := bel_grown (bel_alloc hb _) b_21 hg' (fun g hg => (HR.out.block g hg).1)
     have HR' := Lib.hid hr'
     clear hr'
     go_wp2
     go_ret
     exact ⟨_, rfl, by unfold f_AppendVarint; rw [if_pos b_29, show ((m : Int)).toNat = m from rfl, ← HD.out, HV.out]; exact HR'.out, hb'⟩
   ·have hkc : (128 : Int) ≤ k := by omega
    have hv : varint k = hiByte k :: varint (k / 128) := by rw [varint, dif_neg hlt]
    have hu8 := hiByte_nat k
    have HV := Lib.hid hv
    clear hv
    have hlb : d.length + 1 ≤ m + 1 := by have h1 := hdl.out; rw [HV.out, List.length_append] at h1; have := varint_len m; simp at h1; omega
    have hb1 : Row flatB (wr.alloc (.cells #[.int .u8 (bits BinOp.or IntKind.i64 (bits BinOp.and IntKind.i64 (k : Int) 127) 128 % 256)] 5)) wr.heap.size 5 (.slice (some ⟨wr.heap.size, 0, none⟩) 1 1) [hiByte k] := by
     have := Row.lit1 flatB wr 5 (hiByte k) trivial (Nat.le_refl _)
     rwa [show flatB.enc (hiByte k) = .int .u8 (bits BinOp.or IntKind.i64 (bits BinOp.and IntKind.i64 (k : Int) 127) 128 % 256) from congrArg (Value.int .u8) (hu8.trans (or128s k).symm)] at this
    have HB := Lib.hid hb1
    clear hb1
    have hsz := hb.size
    clear hu8
    set_option maxRecDepth 100000 in go_wp2_with (at_builtin; go_loud (refine wpList_append_row rfl _ _ 22 rfl flatB w.heap.size 5 infoB rfl Try.underlying22 _ _ (b ++ d) [hiByte k] rfl rfl (HR.out.below b_5) (HB.out.rd b_21) ?_ ?_ ?_ ?_))
    case refine_1 => simp only [List.length_append, List.length_cons, List.length_nil]; omega
    case refine_2 => simp only [List.length_append, List.length_cons, List.length_nil]; unfold maxLen; omega
    case refine_3 => simp only [World.size_alloc]; omega
    case refine_4 =>
     intro v' w' hr' hg'
     have hb' : Below w.heap.size w w' := bel_grown (bel_alloc hb _) b_21 hg' (fun g hg => (HR.out.block g hg).1)
     have HR' := Lib.hid hr'
     clear hr'
     go_wp2
     exact ⟨⟨k / 128, d ++ [hiByte k], by omega, by first | rfl | go_num, by exact HR'.out, by rw [List.append_assoc, ← HD.out, HV.out]; rfl, hb'⟩, by simp [intOf]; omega⟩
theorem C_slices_Clone_str (w : World) (v : Value) (x : List (List UInt8)) (h : (Ty.sl .str).rd w [v] x) (hx : x.length ≤ 1099511627776) : Calls Try.prog 142 #[v] w (RetRow flatS w 9 x) := by
 obtain ⟨A, c, rfl, hc, hm, hn⟩ := Ty.rd_sl h
 cases A with
 | none =>
  obtain ⟨rfl, rfl⟩ := Ty.rd_nil h
  show Calls Try.prog 142 #[.slice none 0 0] w _
  clear h hx hc hm hn
  have q22 : ∀ (w : World) (a : Option Addr) (n c n' c' : Nat), (binOp .eql 25 (.slice a n c) (.slice none n' c')).run Try.prog w = .ok (.bool a.isNone) w := fun w a n c n' c' => Lib.run_eql_slice_nil w _ _ a n c n' c' Try.underlying25
  go_enter Try.func142, Try.ntmps142
  go_wp2
  go_ret
  exact ⟨_, rfl, Row.nil _ _ _ _, Below.refl _ _⟩
 | some a =>
  have q22 : ∀ (w : World) (a : Option Addr) (n c n' c' : Nat), (binOp .eql 25 (.slice a n c) (.slice none n' c')).run Try.prog w = .ok (.bool a.isNone) w := fun w a n c n' c' => Lib.run_eql_slice_nil w _ _ a n c n' c' Try.underlying25
  go_enter Try.func142, Try.ntmps142
  set_option maxRecDepth 100000 in go_wp2_with (at_builtin; go_loud (refine wpList_append_row rfl _ _ 25 rfl flatS w.heap.size 9 info_str rfl Try.underlying25 _ _ [] x rfl rfl (Row.lit0 flatS w 9 (Nat.le_refl _)) (Ty.rd_below b_5 h) ?_ ?_ ?_ ?_))
  case refine_1 => simp only [List.length_nil]; omega
  case refine_2 => simp only [List.length_nil]; unfold maxLen; omega
  case refine_3 => simp only [World.size_alloc]; omega
  case refine_4 =>
   intro v' w' hr' hg'
   have hb' : Below w.heap.size w w' := bel_grown b_5 b_21 hg' (fun g hg => by simp [Value.ownBlock] at hg; omega)
   have HR' := Lib.hid hr'
   clear hr'
   go_wp2
   go_ret
   exact ⟨_, rfl, HR'.out, hb'⟩
set_option maxHeartbeats 1000000 in
theorem C_impl_copyName (w : World) (cs : List Value) (x : List (List UInt8)) (h : (Ty.sl .str).rd w cs x) (hx : x.length ≤ 1000000000000) :
  Calls Try.prog 71 #[.agg cs.toArray] w (RetAgg w (.sl .str) x) := by
 obtain ⟨A0, c0, rfl⟩ := Ty.rd_slv h
 go_enter Try.func71, Try.ntmps71
 go_wp2_with fail
 refine (C_slices_Clone_str _ _ x (Ty.rd_below b_5 h) b_29).mono ?_
 rintro e w1 ⟨v1, rfl, hr1, hb1⟩
 obtain ⟨A1, c1, fp1, rfl, how1, hfr1⟩ := hr1.own hb1.size
 have hw1 : Below w.heap.size w w1 := bel_trans b_5 hb1
 obtain ⟨hc1, hf1⟩ := bcell hb1
 have hz1 := hb1.size
 simp only [World.size_alloc] at hz1 hfr1
 have z0 : w.heap.size < w1.heap.size := by omega
 have z1 : w.heap.size + 1 < w1.heap.size := by omega
 clear hr1
 go_wp2
 refine bodyPost_ret (v := .agg #[.slice A1 (List.length x) c1]) (by simp [results, Try.results71, go_sem, hc1, hf1, z0, z1]) rfl ?_
 exact ⟨_, fp1, rfl, Ty.ow_keep (by intro b hb'; have hb'' := (hfr1).2 b hb'; (try simp only [szz] at hb''); repeat (first | (with_reducible rfl) | (rw [Below.heap_setCell _ _ _ _ b_24]) | (rw [Below.heap_alloc _ _ _ (by simp only [World.size_alloc, World.size_setCell]; omega)]))) how1, (hfr1.mono b_21 b_21), b_5⟩
set_option maxHeartbeats 1000000 in
theorem C_spec_l4Copy (w : World) (cs : List Value) (x : List (List UInt8)) (h : (Ty.sl .str).rd w cs x) (hx : x.length ≤ 1000000000000) :
  Calls Try.prog 73 #[.agg cs.toArray] w (RetAgg w (.sl .str) x) := by
 obtain ⟨A0, c0, rfl⟩ := Ty.rd_slv h
 have hl0 : Row flatS (((w.alloc (.cells #[.slice A0 x.length c0] 27)).alloc (.cells #[.slice none 0 0] 27)).alloc (.cells #[] 9)) (w.heap.size + 1 + 1) 9 (.slice (some ⟨w.heap.size + 1 + 1, 0, none⟩) 0 0) [] := by
  have := Row.lit0 flatS ((w.alloc (.cells #[.slice A0 x.length c0] 27)).alloc (.cells #[.slice none 0 0] 27)) 9 (base := w.heap.size + 1 + 1) b_20
  simp only [World.size_alloc] at this
  exact this
 have HL0 := Lib.hid hl0
 clear hl0
 go_enter Try.func73, Try.ntmps73
 set_option maxRecDepth 100000 in go_wp2_with (at_builtin; go_loud (refine wpList_append_row rfl _ _ 25 rfl flatS (w.heap.size + 1 + 1) 9 info_str rfl Try.underlying25 _ _ [] x rfl rfl HL0.out (Ty.rd_below b_5 h) ?_ ?_ ?_ ?_))
 case refine_1 => simp only [List.length_nil]; omega
 case refine_2 => simp only [List.length_nil]; unfold maxLen; omega
 case refine_3 => simp only [World.size_alloc]; omega
 intro v1 w1 hr1 hg1
 have hb1 : Below ((w.alloc (.cells #[.slice A0 x.length c0] 27)).alloc (.cells #[.slice none 0 0] 27)).heap.size ((w.alloc (.cells #[.slice A0 x.length c0] 27)).alloc (.cells #[.slice none 0 0] 27)) w1 := bel_grown (bel_alloc (Below.refl _ _) _) b_20 hg1 (fun g hg => by simp [Value.ownBlock] at hg; simp only [World.size_alloc]; omega)
 have hz1 := hb1.size
 simp only [World.size_alloc] at hz1
 obtain ⟨A1, c1, fp1, rfl, how1, hfr1⟩ := hr1.own b_29
 have hw1 : Below w.heap.size w w1 := bel_trans b_5 hb1
 obtain ⟨hc1, hf1⟩ := bcell hb1
 have z0 : w.heap.size < w1.heap.size := by omega
 have z1 : w.heap.size + 1 < w1.heap.size := by omega
 clear hr1
 go_wp2
 refine bodyPost_ret (v := .agg #[.slice A1 (List.length x) c1]) (by simp [results, Try.results73, go_sem, hc1, hf1, z0, z1]) rfl ?_
 exact ⟨_, fp1, rfl, Ty.ow_keep (by intro b hb'; have hb'' := (hfr1).2 b hb'; (try simp only [szz] at hb''); repeat (first | (with_reducible rfl) | (rw [Below.heap_setCell _ _ _ _ b_24]) | (rw [Below.heap_alloc _ _ _ (by simp only [World.size_alloc, World.size_setCell]; omega)]))) how1, (hfr1.mono b_21 b_21), b_5⟩
end Go.Proofs.Ytldgbnlcnlfmeaa
