/- Texts of this claim, merged by a program: Rdr. -/
import Derived.Test.YtldgbnlcnlfmeaaGreatQtP
import Derived.Test.YtldgbnlcnlfmeaaGreatQt20
import Derived.Test.YtldgbnlcnlfmeaaGreatQt10
namespace Go.Proofs.YtldgbnlcnlfmeaaGreat
open Go.RowKit
set_option linter.unusedVariables false
set_option linter.unusedSimpArgs false
def okRule (r : tRule.D) : Prop := okAny r.1 ∧ okAny r.2
def okRules (l : List (Ty.D tRule)) : Prop := l.length ≤ 9 ∧ ∀ r ∈ l, okRule r
theorem rule_bulk {r : tRule.D} (h : okRule r) : Ty.bulk tRule r ≤ 140 := by
 have h1 := any_bulk h.1
 have h2 := any_bulk h.2
 show Ty.bulk (.sl .str) r.1 + Ty.bulk (.sl .str) r.2 ≤ 140
 omega
theorem rules_bulk {l : List (Ty.D tRule)} (h : okRules l) : Ty.bulk (.sl tRule) l ≤ 1269 := by
 have : ∀ (l : List (Ty.D tRule)), (∀ k ∈ l, okRule k) → Ty.bulk (.sl tRule) l ≤ 141 * l.length := by
  intro l
  induction l with
  | nil => intro _; exact Nat.zero_le _
  | cons a l ih =>
   intro h
   have h1 := ih (fun p hp => h p (List.mem_cons_of_mem _ hp))
   have h2 := rule_bulk (h a (List.mem_cons_self ..))
   have h3 := bulk_app (e := tRule) [a] l
   have h4 := bulk_one (e := tRule) a
   simp only [List.cons_append, List.nil_append] at h3
   rw [List.length_cons]
   omega
 have := this l h.2
 have := h.1
 omega
theorem okRules.app {l : List (Ty.D tRule)} (h : okRules l) (hl : l.length ≤ 8) {k : Ty.D tRule} (hk : okRule k) : okRules (l ++ [k]) := by
 refine ⟨by simp; omega, fun p hp => ?_⟩
 rcases List.mem_append.1 hp with hp | hp
 ·exact h.2 p hp
 ·simp at hp; subst hp; exact hk
theorem okAny_of_all {n : List (List UInt8)} (h : (decide (n.length ≤ 7) && n.all (fun p => decide (p.length ≤ 9))) = true) : okAny n := by
 simp only [Bool.and_eq_true, decide_eq_true_eq, List.all_eq_true] at h
 exact ⟨h.1, fun p hp => h.2 p hp⟩
theorem rule7 {s : List UInt8} (h : s ∈ [[47, 97, 47, 42, 42, 32, 60, 32, 47, 107, 101, 121, 47, 97], [47, 98, 47, 42, 42, 32, 60, 32, 47, 107, 101, 121, 47, 98], [47, 63, 120, 47, 42, 42, 32, 60, 32, 47, 63, 120, 47, 107, 101, 121], [47, 63, 120, 47, 107, 101, 121, 32, 60, 32, 47, 107, 101, 121, 47, 97], [47, 110, 101, 119, 115, 47, 42, 32, 60, 32, 47, 107, 101, 121, 47, 98], [47, 63, 120, 47, 63, 121, 32, 60, 32, 47, 107, 101, 121, 47, 63, 121], [47, 107, 101, 121, 47, 42, 32, 60, 32, 47, 107, 101, 121, 47, 97]]) : okRule (prS s).1 ∧ s.length ≤ 100 := by
 simp at h; rcases h with rfl | rfl | rfl | rfl | rfl | rfl | rfl <;> exact ⟨⟨okAny_of_all b_36, okAny_of_all b_36⟩, by decide⟩
set_option maxRecDepth 100000 in
set_option maxHeartbeats 2000000 in
theorem C_spec_l10Rule (w : World) (B : Nat) (hc : CurT w B) :
  Calls Tryz.prog 151 #[pB B] w (RetDT B w (DrR tRule w okRule)) := by
 have hB := hc.lt
 go_enter Tryz.func151, Tryz.ntmps151
 go_wp2_with fail
 refine Calls.mono (C_spec_l1Str _ B _ [[47, 97, 47, 42, 42, 32, 60, 32, 47, 107, 101, 121, 47, 97], [47, 98, 47, 42, 42, 32, 60, 32, 47, 107, 101, 121, 47, 98], [47, 63, 120, 47, 42, 42, 32, 60, 32, 47, 63, 120, 47, 107, 101, 121], [47, 63, 120, 47, 107, 101, 121, 32, 60, 32, 47, 107, 101, 121, 47, 97], [47, 110, 101, 119, 115, 47, 42, 32, 60, 32, 47, 107, 101, 121, 47, 98], [47, 63, 120, 47, 63, 121, 32, 60, 32, 47, 107, 101, 121, 47, 63, 121], [47, 107, 101, 121, 47, 42, 32, 60, 32, 47, 107, 101, 121, 47, 97]] b_14 b_11 b_36 b_36) ?_
 rintro e w1 ⟨hd1, hc1, s, hs, rfl⟩
 have hs7 := rule7 hs
 have hsl := hs7.2
 have HOK := Lib.hid hs7.1
 have D1 : Dr B w w1 := b_5
 have z1 := D1.size
 have hO1 : Blk w1 w.heap.size 128 #[.slice none 0 0, .slice none 0 0] := Dr.blk hd1 (by repeat' (first | (with_reducible exact Blk.new _ _ _) | (with_reducible refine Blk.drew ?_) | (with_reducible refine Blk.alloc ?_ _))) b_37
 clear hs hs7 hd1
 go_wp2_with fail
 refine Calls.mono (C_spec_ParseRule _ s b_37) ?_
 rintro e w2 ⟨cs2, fp2, rfl, how2, hfr2, hb2⟩
 obtain ⟨A0, c0, A1, c1, rfl, -, -⟩ := rd_Rule (Ty.ow_rd how2)
 have z2 := hb2.size
 have D2 : Dr B w w2 := D1.then_ hb2
 have hc2 : CurT w2 B := Cur.below hc1 hb2
 have hO2 := hO1.below hb2 hO1.lt
 have zR : w.heap.size < w1.heap.size := hO1.lt
 have Q2 := RdI.of_owF how2 hfr2 (Nat.le_refl _)
 clear how2 hfr2 hb2 D1 hO1 hc1
 generalize (prS s).1 = r at Q2 HOK ⊢
 obtain ⟨w3, hw3⟩ : ∃ w3, w3 = w2.alloc (.cells #[.slice A0 (List.length r.1) c0, .slice A1 (List.length r.2) c1] 128) := ⟨_, rfl⟩
 have D3 : Dr B w w3 := by rw [hw3]; exact D2.alloc _
 have hc3 : CurT w3 B := by rw [hw3]; exact hc2.alloc _
 have hO3 : Blk w3 w.heap.size 128 #[.slice none 0 0, .slice none 0 0] := by rw [hw3]; exact hO2.alloc _
 have Q3 : RdI tRule w1.heap.size w2.heap.size w3 [.slice A0 (List.length r.1) c0, .slice A1 (List.length r.2) c1] r := by rw [hw3]; exact Q2.alloc _
 subst hw3
 have kO0 : (w2.alloc (.cells #[.slice A0 (List.length r.1) c0, .slice A1 (List.length r.2) c1] 128)).cell? ⟨w.heap.size, 0, none⟩ = some (.slice none 0 0) := hO3.cell 0
 have kO1 : (w2.alloc (.cells #[.slice A0 (List.length r.1) c0, .slice A1 (List.length r.2) c1] 128)).cell? ⟨w.heap.size, 1, none⟩ = some (.slice none 0 0) := hO3.cell 1
 have fO0 : (w2.alloc (.cells #[.slice A0 (List.length r.1) c0, .slice A1 (List.length r.2) c1] 128)).frozen? ⟨w.heap.size, 0, none⟩ = false := hO3.f1
 have fO1 : (w2.alloc (.cells #[.slice A0 (List.length r.1) c0, .slice A1 (List.length r.2) c1] 128)).frozen? ⟨w.heap.size, 1, none⟩ = false := hO3.f1
 have zO := hO3.lt
 have P9 := (Blk.set_ (Blk.set_ hO3 0 (.slice A0 (List.length r.1) c0)) 1 (.slice A1 (List.length r.2) c1))
 have D9 := (Dr.set (Dr.set D3 (p := ⟨w.heap.size, 0, none⟩) (.inr (Nat.le_refl _)) (.slice A0 (List.length r.1) c0)) (p := ⟨w.heap.size, 1, none⟩) (.inr (Nat.le_refl _)) (.slice A1 (List.length r.2) c1))
 have C9 := (Cur.far (Cur.far hc3 (p := ⟨w.heap.size, 0, none⟩) hB (.slice A0 (List.length r.1) c0)) (p := ⟨w.heap.size, 1, none⟩) hB (.slice A1 (List.length r.2) c1))
 have Q9 := (RdI.set (RdI.set Q3 (p := ⟨w.heap.size, 0, none⟩) (.inl b_34) (.slice A0 (List.length r.1) c0)) (p := ⟨w.heap.size, 1, none⟩) (.inl b_34) (.slice A1 (List.length r.2) c1))
 go_wp2_with fail
 generalize (((w2.alloc (.cells #[.slice A0 (List.length r.1) c0, .slice A1 (List.length r.2) c1] 128)).setCell ⟨w.heap.size, 0, none⟩ (.slice A0 (List.length r.1) c0)).setCell ⟨w.heap.size, 1, none⟩ (.slice A1 (List.length r.2) c1)) = w9 at P9 D9 C9 Q9 ⊢
 obtain ⟨k90, k91, -, -, -⟩ := bk2 P9
 refine bodyPost_ret (v := .agg #[.slice A0 (List.length r.1) c0, .slice A1 (List.length r.2) c1]) (by simp [results, Tryz.results151, go_sem, k90, k91]) rfl ?_
 exact ⟨D9, C9, _, r, rfl, Q9.mono b_37 Q9.1 (Nat.le_refl _), HOK.out⟩
set_option maxRecDepth 100000 in
set_option maxHeartbeats 2000000 in
theorem C_spec_l10Rules (w : World) (B : Nat) (hc : CurT w B) :
  Calls Tryz.prog 149 #[pB B] w (RetDT B w (DrG tRule 128 w (fun l => okRules l ∧ l.length ≤ 5))) := by
 have hB := hc.lt
 go_enter Tryz.func149, Tryz.ntmps149
 go_wp2_with fail
 refine Calls.mono (C_spec_l1Below _ B 6 b_14 b_36 b_36) ?_
 rintro e w1 ⟨hd1, hc1, x, rfl, hx0, hx1⟩
 have D1 : Dr B w w1 := b_5
 have HG1 := Lib.hid ((GRow.ofDRow (DRow.lit0 tRule w 128 (base := w.heap.size) (Nat.le_refl _))).dr hd1 hB)
 clear hd1
 go_wp2
 go_loopw [3, 4] (fun v i wr => ∃ (k : Int) (A : Option Addr) (c : Nat) (l : List (Ty.D tRule)), v = .slice A (List.length l) c ∧ i = .int .i64 k ∧ 0 ≤ k ∧ k ≤ 5 ∧ (l.length : Int) ≤ 5 - k ∧ okRules l ∧ CurT wr B ∧ Dr B w wr ∧ GRow tRule w.heap.size [] wr 128 (.slice A (List.length l) c) l) (fun _ i _ => (intOf i).toNat)
 case atStart => exact ⟨x, _, _, [], rfl, rfl, by omega, by omega, (show (0 : Int) ≤ 5 - x by omega), ⟨by decide, fun r hr => by cases hr⟩, hc1, D1, HG1.out⟩
 case round =>
  obtain ⟨k, A, c, l, rfl, rfl, hk0, hk5, hll, hol, hcr, hdr, hG⟩ := hrel
  have zr := hdr.size
  have HG := Lib.hid hG
  have HOL := Lib.hid hol
  clear hG hol HG1 D1 hc1
  by_cases hlt : 0 < k
  ·go_wp2_with fail
   refine Calls.mono (C_spec_l10Rule _ B b_14) ?_
   rintro e w3 ⟨hd3, hc3, cs3, r, rfl, hQ3, hok3⟩
   obtain ⟨A0, c0, A1, c1, rfl, -, -⟩ := rd_Rule hQ3.rd
   have E3 : Dr B wr w3 := b_5
   have z3 := E3.size
   have z3' := hd3.size
   (try simp only [World.size_drew, size_drewN] at z3')
   have D3 : Dr B w w3 := hdr.trans E3
   have HG3 := Lib.hid (HG.out.dr E3 hB)
   have hbl := HG.out.block
   clear hd3
   set_option maxRecDepth 100000 in go_wp2_with (at_builtin; go_loud (refine wpList_append_grow (e := tRule) rfl _ _ 25 rfl w.heap.size [] 128 info_Rule rfl Tryz.underlying25 (.slice A (List.length l) c) _ l [r] b_39 b_39 ((HG3.out.alloc _).alloc _) (ASrc.lit (te := 128) (g := w3.heap.size + 1) (by have := Blk.new (w3.alloc (.cells #[.slice A0 (List.length r.1) c0, .slice A1 (List.length r.2) c1] 128)) 128 #[.slice A0 (List.length r.1) c0, .slice A1 (List.length r.2) c1]; rw [World.size_alloc] at this; exact this) ((hQ3.alloc _).alloc _) (by first | exact hdr.size | omega) b_38 (fun q hq => .inl (by have := hbl q hq; first | omega | (try simp only [World.size_drew, size_drewN]; omega)))) ?_ ?_ ?_ ?_ ?_))
   case refine_1 => intro q hq; simp at hq
   case refine_2 => simp only [List.length_singleton]; omega
   case refine_3 => simp only [List.length_singleton]; unfold maxLen; omega
   case refine_4 => exact b_32
   intro v' w' hr' hg'
   have hbl3 := HG3.out.block
   have D5 : Dr B w w' := Dr.grown b_5 hg' (fun q hq => (hbl3 q hq).1)
   have C5 : CurT w' B := Cur.grown b_14 hg' (fun q hq => by have := (hbl3 q hq).1; omega)
   have HOK5 := Lib.hid (HOL.out.app b_37 hok3)
   obtain ⟨r', hrr⟩ : ∃ y, y = l ++ [r] := ⟨_, rfl⟩
   have HL5 := Lib.hid (show r'.length = l.length + 1 by rw [hrr, List.length_append, List.length_singleton])
   rw [← hrr] at hr' HOK5
   clear hrr
   obtain ⟨A5, c5, rfl⟩ := hr'.form
   have HR := Lib.hid hr'
   clear hr' hg' hbl hbl3
   go_wp2
   go_roundw
   case rel => exact ⟨k - 1, _, _, r', rfl, rfl, by omega, by omega, by have := HL5.out; omega, HOK5.out, C5, D5, HR.out⟩
   case measure => simp [intOf]; omega
  ·go_wp2
   go_ret
   exact ⟨hdr, hcr, _, l, _, rfl, HG.out, HOL.out, by omega⟩
set_option maxRecDepth 100000 in
set_option maxHeartbeats 2000000 in
theorem C_spec_l10Any (w : World) (B : Nat) (hc : CurT w B) :
  Calls Tryz.prog 111 #[pB B] w (RetDT B w (DrV tRule w okRules)) := by
 have hB := hc.lt
 go_enter Tryz.func111, Tryz.ntmps111
 go_wp2_with fail
 refine Calls.mono (C_spec_l10Rules _ B b_14) ?_
 rintro e w1 ⟨hd1, hc1, A, l, c, rfl, hG, hok, hl5⟩
 have z1 := hd1.size
 have HOL := Lib.hid hok
 go_wp2_with fail
 refine Calls.mono (C_spec_l1Below _ B 8 b_14 b_36 b_36) ?_
 rintro e w2 ⟨hd2, hc2, k, rfl, hk0, hk1⟩
 have z2 := hd2.size
 have D2 : Dr B w w2 := hd1.trans hd2
 have HG2 := Lib.hid (hG.dr hd2 hB)
 clear hd1 hd2 hG hok hc1
 rcases (show k = 0 ∨ k = 1 ∨ (k ≠ 0 ∧ k ≠ 1) by omega) with rfl | rfl | hk
 ·go_wp2_with fail
  refine Calls.mono (C_spec_l5Any _ B b_14) ?_
  rintro e w4 ⟨hd4, hc4, cs4, n1, rfl, hQ4, hok4⟩
  obtain ⟨A0, c0, rfl⟩ := Ty.rd_slv hQ4.rd
  have E4 : Dr B w2 w4 := b_5
  have z4 := E4.size
  clear hd4
  go_wp2_with fail
  refine Calls.mono (C_spec_l5Any _ B b_14) ?_
  rintro e w3 ⟨hd3, hc3, cs3, n2, rfl, hQ5, hok5⟩
  obtain ⟨A1, c1, rfl⟩ := Ty.rd_slv hQ5.rd
  have E34 : Dr B w4 w3 := b_5
  have z3 := E34.size
  have E3 : Dr B w2 w3 := E4.trans E34
  have hQ3 : RdI tRule w2.heap.size w3.heap.size w3 [.slice A0 (List.length n1) c0, .slice A1 (List.length n2) c1] (n1, n2) := RdI.pr ((hQ4.dr E34 b_37).mono (Nat.le_refl _) z3 (Nat.le_refl _)) (hQ5.mono (by first | omega | (try simp only [World.size_drew, size_drewN]; omega)) (Nat.le_refl _) (Nat.le_refl _))
  have hok3 : okRule (n1, n2) := ⟨hok4, hok5⟩
  have D3 : Dr B w w3 := D2.trans E3
  have HG3 := Lib.hid (HG2.out.dr E3 hB)
  have hbl := HG2.out.block
  clear hd3 hQ4 hQ5 E4 E34 E3 D2 HG2 hc2 hc4
  set_option maxRecDepth 100000 in go_wp2_with (at_builtin; go_loud (refine wpList_append_grow (e := tRule) rfl _ _ 25 rfl w.heap.size [] 128 info_Rule rfl Tryz.underlying25 (.slice A (List.length l) c) _ l [(n1, n2)] b_39 b_39 (HG3.out.alloc _) (ASrc.lit (te := 128) (Blk.new _ _ _) (hQ3.alloc _) b_37 b_38 (fun q hq => .inl (by have := hbl q hq; first | omega | (try simp only [World.size_drew, size_drewN]; omega)))) ?_ ?_ ?_ ?_ ?_))
  case refine_1 => intro q hq; simp at hq
  case refine_2 => simp only [List.length_singleton]; omega
  case refine_3 => simp only [List.length_singleton]; unfold maxLen; omega
  case refine_4 => exact b_32
  intro v' w' hr' hg'
  have hbl3 := HG3.out.block
  have D5 : Dr B w w' := Dr.grown b_5 hg' (fun q hq => (hbl3 q hq).1)
  have C5 : CurT w' B := Cur.grown b_14 hg' (fun q hq => by have := (hbl3 q hq).1; omega)
  have HOK5 := Lib.hid (HOL.out.app b_37 hok3)
  obtain ⟨r', hrr⟩ : ∃ y, y = l ++ [(n1, n2)] := ⟨_, rfl⟩
  have HL5 := Lib.hid (show r'.length = l.length + 1 by rw [hrr, List.length_append, List.length_singleton])
  rw [← hrr] at hr' HOK5
  clear hrr
  obtain ⟨A5, c5, rfl⟩ := hr'.form
  have HR := Lib.hid hr'
  clear hr' hg' hbl hbl3
  go_wp2
  go_ret
  exact ⟨D5, C5, _, r', _, rfl, HR.out.rdI, HOK5.out⟩
 ·go_wp2
  go_loopw [3] (fun v wr => ∃ (A : Option Addr) (c : Nat) (l : List (Ty.D tRule)), v = .slice A (List.length l) c ∧ okRules l ∧ CurT wr B ∧ Dr B w wr ∧ GRow tRule w.heap.size [] wr 128 (.slice A (List.length l) c) l) (fun v _ => 9 - lenVd v)
  case atStart => exact ⟨_, _, l, rfl, HOL.out, hc2, D2, HG2.out⟩
  case round =>
   obtain ⟨A, c, l, rfl, hol, hcr, hdr, hG⟩ := hrel
   have zr := hdr.size
   have HG := Lib.hid hG
   have HOL := Lib.hid hol
   clear hG hol HG2 D2 hc2
   go_wp2_with fail
   refine Calls.mono (C_spec_l1Below _ B 3 b_14 b_36 b_36) ?_
   rintro e w4 ⟨hd4, hc4, y, rfl, hy0, hy1⟩
   have hvy : IntKind.i64.wrap (7 + y) = 7 + y := IntWalk.i64_in _ b_37
   have E4 : Dr B wr w4 := b_5
   have z4 := E4.size
   have D4 : Dr B w w4 := hdr.trans E4
   have HG4 := Lib.hid (HG.out.dr E4 hB)
   clear hd4
   by_cases hlt : (l.length : Int) < 7 + y
   ·go_wp2_with fail
    refine Calls.mono (C_spec_l10Rule _ B b_14) ?_
    rintro e w3 ⟨hd3, hc3, cs3, r, rfl, hQ3, hok3⟩
    obtain ⟨A0, c0, A1, c1, rfl, -, -⟩ := rd_Rule hQ3.rd
    have E3 : Dr B w4 w3 := b_5
    have z3 := E3.size
    have D3 : Dr B w w3 := D4.trans E3
    have HG3 := Lib.hid (HG4.out.dr E3 hB)
    have hbl := HG4.out.block
    clear hd3
    set_option maxRecDepth 100000 in go_wp2_with (at_builtin; go_loud (refine wpList_append_grow (e := tRule) rfl _ _ 25 rfl w.heap.size [] 128 info_Rule rfl Tryz.underlying25 (.slice A (List.length l) c) _ l [r] b_39 b_39 (HG3.out.alloc _) (ASrc.lit (te := 128) (Blk.new _ _ _) (hQ3.alloc _) (by first | exact hdr.size | omega) b_38 (fun q hq => .inl (by have := hbl q hq; first | omega | (try simp only [World.size_drew, size_drewN]; omega)))) ?_ ?_ ?_ ?_ ?_))
    case refine_1 => intro q hq; simp at hq
    case refine_2 => simp only [List.length_singleton]; omega
    case refine_3 => simp only [List.length_singleton]; unfold maxLen; omega
    case refine_4 => exact b_32
    intro v' w' hr' hg'
    have hbl3 := HG3.out.block
    have D5 : Dr B w w' := Dr.grown b_5 hg' (fun q hq => (hbl3 q hq).1)
    have C5 : CurT w' B := Cur.grown b_14 hg' (fun q hq => by have := (hbl3 q hq).1; omega)
    have HOK5 := Lib.hid (HOL.out.app b_37 hok3)
    obtain ⟨r', hrr⟩ : ∃ y, y = l ++ [r] := ⟨_, rfl⟩
    have HL5 := Lib.hid (show r'.length = l.length + 1 by rw [hrr, List.length_append, List.length_singleton])
    rw [← hrr] at hr' HOK5
    clear hrr
    obtain ⟨A5, c5, rfl⟩ := hr'.form
    have HR := Lib.hid hr'
    clear hr' hg' hbl hbl3
    go_wp2
    go_roundw
    case rel => exact ⟨_, _, r', rfl, HOK5.out, C5, D5, HR.out⟩
    case measure => simp [lenVd, HL5.out]; omega
   ·go_wp2
    go_ret
    exact ⟨D4, hc4, _, l, _, rfl, HG4.out.rdI, HOL.out⟩
 ·have q0 : (k == 0) = false := by rw [beq_eq_false_iff_ne]; exact hk.1
  have q1 : (k == 1) = false := by rw [beq_eq_false_iff_ne]; exact hk.2
  go_wp2
  go_ret
  exact ⟨D2, hc2, _, l, _, rfl, HG2.out.rdI, HOL.out⟩
end Go.Proofs.YtldgbnlcnlfmeaaGreat
