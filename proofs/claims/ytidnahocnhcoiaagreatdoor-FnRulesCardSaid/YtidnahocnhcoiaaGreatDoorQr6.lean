/- Texts of this claim, merged by a program: Rdr Jn Fmt Fru Eqr Drl. -/
import Derived.Test.YtidnahocnhcoiaaGreatDoorQrP
import Derived.Test.YtidnahocnhcoiaaGreatDoorQr4
import Derived.Test.YtidnahocnhcoiaaGreatDoorQr5
import Derived.Shelf.Strings.OnBuilder
import Derived.Test.YtidnahocnhcoiaaGreatDoorQr1
import Derived.Test.YtidnahocnhcoiaaGreatDoorQr2
import Derived.Lib.Join
import Derived.Laws.Concat
import Derived.Deep.RegionHeld3
namespace Go.Proofs.YtidnahocnhcoiaaGreatDoor
open Go.RowKit
set_option linter.unusedVariables false
set_option linter.unusedSimpArgs false
def okRule (r : tRule.D) : Prop := okAny r.1 ∧ okAny r.2
def okRules (l : List (Ty.D tRule)) : Prop := l.length ≤ 9 ∧ ∀ r ∈ l, okRule r
theorem rule_bulk {r : tRule.D} (h : okRule r) : Ty.bulk tRule r ≤ 140 := by
 have h1 := any_bulk h.1
 have h2 := any_bulk h.2
 show Ty.bulk (.sl .str) r.1 + Ty.bulk (.sl .str) r.2 ≤ 140
 omega
theorem rules_bulk {l : List (Ty.D tRule)} (h : okRules l) : Ty.bulk (.sl tRule) l ≤ 1269 := by
 have : ∀ (l : List (Ty.D tRule)), (∀ k ∈ l, okRule k) → Ty.bulk (.sl tRule) l ≤ 141 * l.length := by
  intro l
  induction l with
  | nil => intro _; exact Nat.zero_le _
  | cons a l ih =>
   intro h
   have h1 := ih (fun p hp => h p (List.mem_cons_of_mem _ hp))
   have h2 := rule_bulk (h a (List.mem_cons_self ..))
   have h3 := bulk_app (e := tRule) [a] l
   have h4 := bulk_one (e := tRule) a
   simp only [List.cons_append, List.nil_append] at h3
   rw [List.length_cons]
   omega
 have := this l h.2
 have := h.1
 omega
theorem okRules.app {l : List (Ty.D tRule)} (h : okRules l) (hl : l.length ≤ 8) {k : Ty.D tRule} (hk : okRule k) : okRules (l ++ [k]) := by
 refine ⟨by simp; omega, fun p hp => ?_⟩
 rcases List.mem_append.1 hp with hp | hp
 ·exact h.2 p hp
 ·simp at hp; subst hp; exact hk
theorem okAny_of_all {n : List (List UInt8)} (h : (decide (n.length ≤ 7) && n.all (fun p => decide (p.length ≤ 9))) = true) : okAny n := by
 simp only [Bool.and_eq_true, decide_eq_true_eq, List.all_eq_true] at h
 exact ⟨h.1, fun p hp => h.2 p hp⟩
theorem rule7 {s : List UInt8} (h : s ∈ [[47, 97, 47, 42, 42, 32, 60, 32, 47, 107, 101, 121, 47, 97], [47, 98, 47, 42, 42, 32, 60, 32, 47, 107, 101, 121, 47, 98], [47, 63, 120, 47, 42, 42, 32, 60, 32, 47, 63, 120, 47, 107, 101, 121], [47, 63, 120, 47, 107, 101, 121, 32, 60, 32, 47, 107, 101, 121, 47, 97], [47, 110, 101, 119, 115, 47, 42, 32, 60, 32, 47, 107, 101, 121, 47, 98], [47, 63, 120, 47, 63, 121, 32, 60, 32, 47, 107, 101, 121, 47, 63, 121], [47, 107, 101, 121, 47, 42, 32, 60, 32, 47, 107, 101, 121, 47, 97]]) : okRule (prS s).1 ∧ s.length ≤ 100 := by
 simp at h; rcases h with rfl | rfl | rfl | rfl | rfl | rfl | rfl <;> exact ⟨⟨okAny_of_all b_21, okAny_of_all b_21⟩, by decide⟩
set_option maxRecDepth 100000 in
set_option maxHeartbeats 2000000 in
theorem C_spec_l10Rule (w : World) (B : Nat) (hc : CurT w B) :
  Calls Tryz.prog 54 #[pB B] w (RetDT B w (DrR tRule w okRule)) := by
 have hB := hc.lt
 go_enter Tryz.func54, Tryz.ntmps54
 go_wp2_with fail
 refine Calls.mono (C_spec_l1Str _ B _ [[47, 97, 47, 42, 42, 32, 60, 32, 47, 107, 101, 121, 47, 97], [47, 98, 47, 42, 42, 32, 60, 32, 47, 107, 101, 121, 47, 98], [47, 63, 120, 47, 42, 42, 32, 60, 32, 47, 63, 120, 47, 107, 101, 121], [47, 63, 120, 47, 107, 101, 121, 32, 60, 32, 47, 107, 101, 121, 47, 97], [47, 110, 101, 119, 115, 47, 42, 32, 60, 32, 47, 107, 101, 121, 47, 98], [47, 63, 120, 47, 63, 121, 32, 60, 32, 47, 107, 101, 121, 47, 63, 121], [47, 107, 101, 121, 47, 42, 32, 60, 32, 47, 107, 101, 121, 47, 97]] b_4 b_3 b_21 b_21) ?_
 rintro e w1 ⟨hd1, hc1, s, hs, rfl⟩
 have hs7 := rule7 hs
 have hsl := hs7.2
 have HOK := Lib.hid hs7.1
 have D1 : Dr B w w1 := b_1
 have z1 := D1.size
 have hO1 : Blk w1 w.heap.size 28 #[.slice none 0 0, .slice none 0 0] := Dr.blk hd1 (by repeat' (first | (with_reducible exact Blk.new _ _ _) | (with_reducible refine Blk.drew ?_) | (with_reducible refine Blk.alloc ?_ _))) b_22
 clear hs hs7 hd1
 go_wp2_with fail
 refine Calls.mono (C_spec_ParseRule _ s b_22) ?_
 rintro e w2 ⟨cs2, fp2, rfl, how2, hfr2, hb2⟩
 obtain ⟨A0, c0, A1, c1, rfl, -, -⟩ := rd_Rule (Ty.ow_rd how2)
 have z2 := hb2.size
 have D2 : Dr B w w2 := D1.then_ hb2
 have hc2 : CurT w2 B := Cur.below hc1 hb2
 have hO2 := hO1.below hb2 hO1.lt
 have zR : w.heap.size < w1.heap.size := hO1.lt
 have Q2 := RdI.of_owF how2 hfr2 (Nat.le_refl _)
 clear how2 hfr2 hb2 D1 hO1 hc1
 generalize (prS s).1 = r at Q2 HOK ⊢
 obtain ⟨w3, hw3⟩ : ∃ w3, w3 = w2.alloc (.cells #[.slice A0 (List.length r.1) c0, .slice A1 (List.length r.2) c1] 28) := ⟨_, rfl⟩
 have D3 : Dr B w w3 := by rw [hw3]; exact D2.alloc _
 have hc3 : CurT w3 B := by rw [hw3]; exact hc2.alloc _
 have hO3 : Blk w3 w.heap.size 28 #[.slice none 0 0, .slice none 0 0] := by rw [hw3]; exact hO2.alloc _
 have Q3 : RdI tRule w1.heap.size w2.heap.size w3 [.slice A0 (List.length r.1) c0, .slice A1 (List.length r.2) c1] r := by rw [hw3]; exact Q2.alloc _
 subst hw3
 have kO0 : (w2.alloc (.cells #[.slice A0 (List.length r.1) c0, .slice A1 (List.length r.2) c1] 28)).cell? ⟨w.heap.size, 0, none⟩ = some (.slice none 0 0) := hO3.cell 0
 have kO1 : (w2.alloc (.cells #[.slice A0 (List.length r.1) c0, .slice A1 (List.length r.2) c1] 28)).cell? ⟨w.heap.size, 1, none⟩ = some (.slice none 0 0) := hO3.cell 1
 have fO0 : (w2.alloc (.cells #[.slice A0 (List.length r.1) c0, .slice A1 (List.length r.2) c1] 28)).frozen? ⟨w.heap.size, 0, none⟩ = false := hO3.f1
 have fO1 : (w2.alloc (.cells #[.slice A0 (List.length r.1) c0, .slice A1 (List.length r.2) c1] 28)).frozen? ⟨w.heap.size, 1, none⟩ = false := hO3.f1
 have zO := hO3.lt
 have P9 := (Blk.set_ (Blk.set_ hO3 0 (.slice A0 (List.length r.1) c0)) 1 (.slice A1 (List.length r.2) c1))
 have D9 := (Dr.set (Dr.set D3 (p := ⟨w.heap.size, 0, none⟩) (.inr (Nat.le_refl _)) (.slice A0 (List.length r.1) c0)) (p := ⟨w.heap.size, 1, none⟩) (.inr (Nat.le_refl _)) (.slice A1 (List.length r.2) c1))
 have C9 := (Cur.far (Cur.far hc3 (p := ⟨w.heap.size, 0, none⟩) hB (.slice A0 (List.length r.1) c0)) (p := ⟨w.heap.size, 1, none⟩) hB (.slice A1 (List.length r.2) c1))
 have Q9 := (RdI.set (RdI.set Q3 (p := ⟨w.heap.size, 0, none⟩) (.inl b_18) (.slice A0 (List.length r.1) c0)) (p := ⟨w.heap.size, 1, none⟩) (.inl b_18) (.slice A1 (List.length r.2) c1))
 go_wp2_with fail
 generalize (((w2.alloc (.cells #[.slice A0 (List.length r.1) c0, .slice A1 (List.length r.2) c1] 28)).setCell ⟨w.heap.size, 0, none⟩ (.slice A0 (List.length r.1) c0)).setCell ⟨w.heap.size, 1, none⟩ (.slice A1 (List.length r.2) c1)) = w9 at P9 D9 C9 Q9 ⊢
 have k90 : w9.cell? ⟨w.heap.size, 0, none⟩ = some (.slice A0 (List.length r.1) c0) := P9.cell 0
 have k91 : w9.cell? ⟨w.heap.size, 1, none⟩ = some (.slice A1 (List.length r.2) c1) := P9.cell 1
 refine bodyPost_ret (v := .agg #[.slice A0 (List.length r.1) c0, .slice A1 (List.length r.2) c1]) (by simp [results, Tryz.results54, go_sem, k90, k91]) rfl ?_
 exact ⟨D9, C9, _, r, rfl, Q9.mono b_22 Q9.1 (Nat.le_refl _), HOK.out⟩
set_option maxRecDepth 100000 in
set_option maxHeartbeats 2000000 in
theorem C_spec_l10Rules (w : World) (B : Nat) (hc : CurT w B) :
  Calls Tryz.prog 77 #[pB B] w (RetDT B w (DrG tRule 28 w (fun l => okRules l ∧ l.length ≤ 5))) := by
 have hB := hc.lt
 go_enter Tryz.func77, Tryz.ntmps77
 go_wp2_with fail
 refine Calls.mono (C_spec_l1Below _ B 6 b_4 b_21 b_21) ?_
 rintro e w1 ⟨hd1, hc1, x, rfl, hx0, hx1⟩
 have D1 : Dr B w w1 := b_1
 have HG1 := Lib.hid ((GRow.ofDRow (DRow.lit0 tRule w 28 (base := w.heap.size) (Nat.le_refl _))).dr hd1 hB)
 clear hd1
 go_wp2
 go_loopw [3, 4] (fun v i wr => ∃ (k : Int) (A : Option Addr) (c : Nat) (l : List (Ty.D tRule)), v = .slice A (List.length l) c ∧ i = .int .i64 k ∧ 0 ≤ k ∧ k ≤ 5 ∧ (l.length : Int) ≤ 5 - k ∧ okRules l ∧ CurT wr B ∧ Dr B w wr ∧ GRow tRule w.heap.size [] wr 28 (.slice A (List.length l) c) l) (fun _ i _ => (intOf i).toNat)
 case atStart => exact ⟨x, _, _, [], rfl, rfl, by omega, by omega, (show (0 : Int) ≤ 5 - x by omega), ⟨by decide, fun r hr => by cases hr⟩, hc1, D1, HG1.out⟩
 case round =>
  obtain ⟨k, A, c, l, rfl, rfl, hk0, hk5, hll, hol, hcr, hdr, hG⟩ := hrel
  have zr := hdr.size
  have HG := Lib.hid hG
  have HOL := Lib.hid hol
  clear hG hol HG1 D1 hc1
  by_cases hlt : 0 < k
  ·go_wp2_with fail
   refine Calls.mono (C_spec_l10Rule _ B b_4) ?_
   rintro e w3 ⟨hd3, hc3, cs3, r, rfl, hQ3, hok3⟩
   obtain ⟨A0, c0, A1, c1, rfl, -, -⟩ := rd_Rule hQ3.rd
   have E3 : Dr B wr w3 := b_1
   have z3 := E3.size
   have z3' := hd3.size
   (try simp only [World.size_drew, size_drewN] at z3')
   have D3 : Dr B w w3 := hdr.trans E3
   have HG3 := Lib.hid (HG.out.dr E3 hB)
   have hbl := HG.out.block
   clear hd3
   set_option maxRecDepth 100000 in go_wp2_with (at_builtin; go_loud (refine wpList_append_grow (e := tRule) rfl _ _ 32 rfl w.heap.size [] 28 info_Rule rfl Tryz.underlying32 (.slice A (List.length l) c) _ l [r] b_24 b_24 ((HG3.out.alloc _).alloc _) (ASrc.lit (te := 28) (g := w3.heap.size + 1) (by have := Blk.new (w3.alloc (.cells #[.slice A0 (List.length r.1) c0, .slice A1 (List.length r.2) c1] 28)) 28 #[.slice A0 (List.length r.1) c0, .slice A1 (List.length r.2) c1]; rw [World.size_alloc] at this; exact this) ((hQ3.alloc _).alloc _) (by first | exact hdr.size | omega) b_23 (fun q hq => .inl (by have := hbl q hq; first | omega | (try simp only [World.size_drew, size_drewN]; omega)))) ?_ ?_ ?_ ?_ ?_))
   case refine_1 => intro q hq; simp at hq
   case refine_2 => simp only [List.length_singleton]; omega
   case refine_3 => simp only [List.length_singleton]; unfold maxLen; omega
   case refine_4 => exact b_16
   intro v' w' hr' hg'
   have hbl3 := HG3.out.block
   have D5 : Dr B w w' := Dr.grown b_1 hg' (fun q hq => (hbl3 q hq).1)
   have C5 : CurT w' B := Cur.grown b_4 hg' (fun q hq => by have := (hbl3 q hq).1; omega)
   have HOK5 := Lib.hid (HOL.out.app b_22 hok3)
   obtain ⟨r', hrr⟩ : ∃ y, y = l ++ [r] := ⟨_, rfl⟩
   have HL5 := Lib.hid (show r'.length = l.length + 1 by rw [hrr, List.length_append, List.length_singleton])
   rw [← hrr] at hr' HOK5
   clear hrr
   obtain ⟨A5, c5, rfl⟩ := hr'.form
   have HR := Lib.hid hr'
   clear hr' hg' hbl hbl3
   go_wp2
   go_roundw
   case rel => exact ⟨k - 1, _, _, r', rfl, rfl, by omega, by omega, by have := HL5.out; omega, HOK5.out, C5, D5, HR.out⟩
   case measure => simp [intOf]; omega
  ·go_wp2
   go_ret
   exact ⟨hdr, hcr, _, l, _, rfl, HG.out, HOL.out, by omega⟩
set_option maxRecDepth 100000 in
set_option maxHeartbeats 2000000 in
theorem C_spec_l10Any (w : World) (B : Nat) (hc : CurT w B) :
  Calls Tryz.prog 57 #[pB B] w (RetDT B w (DrV tRule w okRules)) := by
 have hB := hc.lt
 go_enter Tryz.func57, Tryz.ntmps57
 go_wp2_with fail
 refine Calls.mono (C_spec_l10Rules _ B b_4) ?_
 rintro e w1 ⟨hd1, hc1, A, l, c, rfl, hG, hok, hl5⟩
 have z1 := hd1.size
 have HOL := Lib.hid hok
 go_wp2_with fail
 refine Calls.mono (C_spec_l1Below _ B 8 b_4 b_21 b_21) ?_
 rintro e w2 ⟨hd2, hc2, k, rfl, hk0, hk1⟩
 have z2 := hd2.size
 have D2 : Dr B w w2 := hd1.trans hd2
 have HG2 := Lib.hid (hG.dr hd2 hB)
 clear hd1 hd2 hG hok hc1
 rcases (show k = 0 ∨ k = 1 ∨ (k ≠ 0 ∧ k ≠ 1) by omega) with rfl | rfl | hk
 ·go_wp2_with fail
  refine Calls.mono (C_spec_l5Any _ B b_4) ?_
  rintro e w4 ⟨hd4, hc4, cs4, n1, rfl, hQ4, hok4⟩
  obtain ⟨A0, c0, rfl⟩ := Ty.rd_slv hQ4.rd
  have E4 : Dr B w2 w4 := b_1
  have z4 := E4.size
  clear hd4
  go_wp2_with fail
  refine Calls.mono (C_spec_l5Any _ B b_4) ?_
  rintro e w3 ⟨hd3, hc3, cs3, n2, rfl, hQ5, hok5⟩
  obtain ⟨A1, c1, rfl⟩ := Ty.rd_slv hQ5.rd
  have E34 : Dr B w4 w3 := b_1
  have z3 := E34.size
  have E3 : Dr B w2 w3 := E4.trans E34
  have hQ3 : RdI tRule w2.heap.size w3.heap.size w3 [.slice A0 (List.length n1) c0, .slice A1 (List.length n2) c1] (n1, n2) := RdI.pr ((hQ4.dr E34 b_22).mono (Nat.le_refl _) z3 (Nat.le_refl _)) (hQ5.mono (by first | omega | (try simp only [World.size_drew, size_drewN]; omega)) (Nat.le_refl _) (Nat.le_refl _))
  have hok3 : okRule (n1, n2) := ⟨hok4, hok5⟩
  have D3 : Dr B w w3 := D2.trans E3
  have HG3 := Lib.hid (HG2.out.dr E3 hB)
  have hbl := HG2.out.block
  clear hd3 hQ4 hQ5 E4 E34 E3 D2 HG2 hc2 hc4
  set_option maxRecDepth 100000 in go_wp2_with (at_builtin; go_loud (refine wpList_append_grow (e := tRule) rfl _ _ 32 rfl w.heap.size [] 28 info_Rule rfl Tryz.underlying32 (.slice A (List.length l) c) _ l [(n1, n2)] b_24 b_24 (HG3.out.alloc _) (ASrc.lit (te := 28) (Blk.new _ _ _) (hQ3.alloc _) b_22 b_23 (fun q hq => .inl (by have := hbl q hq; first | omega | (try simp only [World.size_drew, size_drewN]; omega)))) ?_ ?_ ?_ ?_ ?_))
  case refine_1 => intro q hq; simp at hq
  case refine_2 => simp only [List.length_singleton]; omega
  case refine_3 => simp only [List.length_singleton]; unfold maxLen; omega
  case refine_4 => exact b_16
  intro v' w' hr' hg'
  have hbl3 := HG3.out.block
  have D5 : Dr B w w' := Dr.grown b_1 hg' (fun q hq => (hbl3 q hq).1)
  have C5 : CurT w' B := Cur.grown b_4 hg' (fun q hq => by have := (hbl3 q hq).1; omega)
  have HOK5 := Lib.hid (HOL.out.app b_22 hok3)
  obtain ⟨r', hrr⟩ : ∃ y, y = l ++ [(n1, n2)] := ⟨_, rfl⟩
  have HL5 := Lib.hid (show r'.length = l.length + 1 by rw [hrr, List.length_append, List.length_singleton])
  rw [← hrr] at hr' HOK5
  clear hrr
  obtain ⟨A5, c5, rfl⟩ := hr'.form
  have HR := Lib.hid hr'
  clear hr' hg' hbl hbl3
  go_wp2
  go_ret
  exact ⟨D5, C5, _, r', _, rfl, HR.out.rdI, HOK5.out⟩
 ·go_wp2
  go_loopw [3] (fun v wr => ∃ (A : Option Addr) (c : Nat) (l : List (Ty.D tRule)), v = .slice A (List.length l) c ∧ okRules l ∧ CurT wr B ∧ Dr B w wr ∧ GRow tRule w.heap.size [] wr 28 (.slice A (List.length l) c) l) (fun v _ => 9 - lenVd v)
  case atStart => exact ⟨_, _, l, rfl, HOL.out, hc2, D2, HG2.out⟩
  case round =>
   obtain ⟨A, c, l, rfl, hol, hcr, hdr, hG⟩ := hrel
   have zr := hdr.size
   have HG := Lib.hid hG
   have HOL := Lib.hid hol
   clear hG hol HG2 D2 hc2
   go_wp2_with fail
   refine Calls.mono (C_spec_l1Below _ B 3 b_4 b_21 b_21) ?_
   rintro e w4 ⟨hd4, hc4, y, rfl, hy0, hy1⟩
   have hvy : IntKind.i64.wrap (7 + y) = 7 + y := IntWalk.i64_in _ b_22
   have E4 : Dr B wr w4 := b_1
   have z4 := E4.size
   have D4 : Dr B w w4 := hdr.trans E4
   have HG4 := Lib.hid (HG.out.dr E4 hB)
   clear hd4
   by_cases hlt : (l.length : Int) < 7 + y
   ·go_wp2_with fail
    refine Calls.mono (C_spec_l10Rule _ B b_4) ?_
    rintro e w3 ⟨hd3, hc3, cs3, r, rfl, hQ3, hok3⟩
    obtain ⟨A0, c0, A1, c1, rfl, -, -⟩ := rd_Rule hQ3.rd
    have E3 : Dr B w4 w3 := b_1
    have z3 := E3.size
    have D3 : Dr B w w3 := D4.trans E3
    have HG3 := Lib.hid (HG4.out.dr E3 hB)
    have hbl := HG4.out.block
    clear hd3
    set_option maxRecDepth 100000 in go_wp2_with (at_builtin; go_loud (refine wpList_append_grow (e := tRule) rfl _ _ 32 rfl w.heap.size [] 28 info_Rule rfl Tryz.underlying32 (.slice A (List.length l) c) _ l [r] b_24 b_24 (HG3.out.alloc _) (ASrc.lit (te := 28) (Blk.new _ _ _) (hQ3.alloc _) (by first | exact hdr.size | omega) b_23 (fun q hq => .inl (by have := hbl q hq; first | omega | (try simp only [World.size_drew, size_drewN]; omega)))) ?_ ?_ ?_ ?_ ?_))
    case refine_1 => intro q hq; simp at hq
    case refine_2 => simp only [List.length_singleton]; omega
    case refine_3 => simp only [List.length_singleton]; unfold maxLen; omega
    case refine_4 => exact b_16
    intro v' w' hr' hg'
    have hbl3 := HG3.out.block
    have D5 : Dr B w w' := Dr.grown b_1 hg' (fun q hq => (hbl3 q hq).1)
    have C5 : CurT w' B := Cur.grown b_4 hg' (fun q hq => by have := (hbl3 q hq).1; omega)
    have HOK5 := Lib.hid (HOL.out.app b_22 hok3)
    obtain ⟨r', hrr⟩ : ∃ y, y = l ++ [r] := ⟨_, rfl⟩
    have HL5 := Lib.hid (show r'.length = l.length + 1 by rw [hrr, List.length_append, List.length_singleton])
    rw [← hrr] at hr' HOK5
    clear hrr
    obtain ⟨A5, c5, rfl⟩ := hr'.form
    have HR := Lib.hid hr'
    clear hr' hg' hbl hbl3
    go_wp2
    go_roundw
    case rel => exact ⟨_, _, r', rfl, HOK5.out, C5, D5, HR.out⟩
    case measure => simp [lenVd, HL5.out]; omega
   ·go_wp2
    go_ret
    exact ⟨D4, hc4, _, l, _, rfl, HG4.out.rdI, HOL.out⟩
 ·have q0 : (k == 0) = false := by rw [beq_eq_false_iff_ne]; exact hk.1
  have q1 : (k == 1) = false := by rw [beq_eq_false_iff_ne]; exact hk.2
  go_wp2
  go_ret
  exact ⟨D2, hc2, _, l, _, rfl, HG2.out.rdI, HOL.out⟩
set_option maxRecDepth 100000 in
set_option maxHeartbeats 2000000 in
theorem C_spec_l10One (w : World) (B : Nat) (hc : CurT w B) :
  Calls Tryz.prog 27 #[pB B] w (RetDT B w (DrR tRule w okRule)) := by
 have hB := hc.lt
 go_enter Tryz.func27, Tryz.ntmps27
 go_wp2_with fail
 refine Calls.mono (C_spec_l1Once _ B 3 b_4 b_21 b_21) ?_
 rintro e w1 ⟨hd1, hc1, yes, rfl⟩
 have D1 : Dr B w w1 := b_1
 have z1 := hd1.size
 simp only [World.size_alloc] at z1
 have hO1 : Blk w1 w.heap.size 28 #[.slice none 0 0, .slice none 0 0] := Dr.blk hd1 (Blk.new w _ _) b_22
 clear hd1
 cases yes with
 | true =>
  go_wp2_with fail
  refine Calls.mono (C_spec_l5Any _ B b_4) ?_
  rintro e w4 ⟨hd4, hc4, cs4, n1, rfl, hQ4, hok4⟩
  obtain ⟨A0, c0, rfl⟩ := Ty.rd_slv hQ4.rd
  have E4 : Dr B w1 w4 := b_1
  have z4 := E4.size
  have hO4 := Dr.blk E4 hO1 b_22
  clear hd4
  go_wp2_with fail
  refine Calls.mono (C_spec_l5Any _ B b_4) ?_
  rintro e w3 ⟨hd3, hc3, cs3, n2, rfl, hQ5, hok5⟩
  obtain ⟨A1, c1, rfl⟩ := Ty.rd_slv hQ5.rd
  have E34 : Dr B w4 w3 := b_1
  have z3 := E34.size
  have hO3 := Dr.blk E34 hO4 b_22
  have D3 : Dr B w w3 := D1.trans (E4.trans E34)
  have Q3 : RdI tRule w1.heap.size w3.heap.size w3 [.slice A0 (List.length n1) c0, .slice A1 (List.length n2) c1] (n1, n2) := RdI.pr ((hQ4.dr E34 b_22).mono (Nat.le_refl _) z3 (Nat.le_refl _)) (hQ5.mono (by first | omega | (try simp only [World.size_drew, size_drewN]; omega)) (Nat.le_refl _) (Nat.le_refl _))
  clear hd3 hQ4 hQ5 E4 E34 hO1 hO4 D1
  have kO0 : w3.cell? ⟨w.heap.size, 0, none⟩ = some (.slice none 0 0) := hO3.cell 0
  have kO1 : w3.cell? ⟨w.heap.size, 1, none⟩ = some (.slice none 0 0) := hO3.cell 1
  have fO0 : w3.frozen? ⟨w.heap.size, 0, none⟩ = false := hO3.f1
  have fO1 : w3.frozen? ⟨w.heap.size, 1, none⟩ = false := hO3.f1
  have zO := hO3.lt
  have P9 := (Blk.set_ (Blk.set_ hO3 0 (.slice A0 (List.length n1) c0)) 1 (.slice A1 (List.length n2) c1))
  have D9 := (Dr.set (Dr.set D3 (p := ⟨w.heap.size, 0, none⟩) (.inr (Nat.le_refl _)) (.slice A0 (List.length n1) c0)) (p := ⟨w.heap.size, 1, none⟩) (.inr (Nat.le_refl _)) (.slice A1 (List.length n2) c1))
  have C9 := (Cur.far (Cur.far hc3 (p := ⟨w.heap.size, 0, none⟩) hB (.slice A0 (List.length n1) c0)) (p := ⟨w.heap.size, 1, none⟩) hB (.slice A1 (List.length n2) c1))
  have Q9 := (RdI.set (RdI.set Q3 (p := ⟨w.heap.size, 0, none⟩) (.inl b_18) (.slice A0 (List.length n1) c0)) (p := ⟨w.heap.size, 1, none⟩) (.inl b_18) (.slice A1 (List.length n2) c1))
  go_wp2_with fail
  generalize ((w3.setCell ⟨w.heap.size, 0, none⟩ (.slice A0 (List.length n1) c0)).setCell ⟨w.heap.size, 1, none⟩ (.slice A1 (List.length n2) c1)) = w9 at P9 D9 C9 Q9 ⊢
  have k90 : w9.cell? ⟨w.heap.size, 0, none⟩ = some (.slice A0 (List.length n1) c0) := P9.cell 0
  have k91 : w9.cell? ⟨w.heap.size, 1, none⟩ = some (.slice A1 (List.length n2) c1) := P9.cell 1
  refine bodyPost_ret (v := .agg #[.slice A0 (List.length n1) c0, .slice A1 (List.length n2) c1]) (by simp [results, Tryz.results27, go_sem, k90, k91]) rfl ?_
  exact ⟨D9, C9, _, (n1, n2), rfl, Q9.mono b_22 Q9.1 (Nat.le_refl _), ⟨hok4, hok5⟩⟩
 | false =>
  go_wp2_with fail
  refine Calls.mono (C_spec_l10Rule _ B b_4) ?_
  rintro e w3 ⟨hd3, hc3, cs3, r, rfl, hQ3, hok3⟩
  obtain ⟨A0, c0, A1, c1, rfl, -, -⟩ := rd_Rule hQ3.rd
  have E3 : Dr B w1 w3 := b_1
  have z3 := E3.size
  have hO3 := Dr.blk E3 hO1 b_22
  have D3 : Dr B w w3 := D1.trans E3
  have Q3 := hQ3.mono (lo' := w1.heap.size) (by first | omega | (try simp only [World.size_drew, size_drewN]; omega)) (Nat.le_refl _) (Nat.le_refl _)
  clear hd3 hQ3 E3 hO1 D1
  have kO0 : w3.cell? ⟨w.heap.size, 0, none⟩ = some (.slice none 0 0) := hO3.cell 0
  have kO1 : w3.cell? ⟨w.heap.size, 1, none⟩ = some (.slice none 0 0) := hO3.cell 1
  have fO0 : w3.frozen? ⟨w.heap.size, 0, none⟩ = false := hO3.f1
  have fO1 : w3.frozen? ⟨w.heap.size, 1, none⟩ = false := hO3.f1
  have zO := hO3.lt
  have P9 := (Blk.set_ (Blk.set_ hO3 0 (.slice A0 (List.length r.1) c0)) 1 (.slice A1 (List.length r.2) c1))
  have D9 := (Dr.set (Dr.set D3 (p := ⟨w.heap.size, 0, none⟩) (.inr (Nat.le_refl _)) (.slice A0 (List.length r.1) c0)) (p := ⟨w.heap.size, 1, none⟩) (.inr (Nat.le_refl _)) (.slice A1 (List.length r.2) c1))
  have C9 := (Cur.far (Cur.far hc3 (p := ⟨w.heap.size, 0, none⟩) hB (.slice A0 (List.length r.1) c0)) (p := ⟨w.heap.size, 1, none⟩) hB (.slice A1 (List.length r.2) c1))
  have Q9 := (RdI.set (RdI.set Q3 (p := ⟨w.heap.size, 0, none⟩) (.inl b_18) (.slice A0 (List.length r.1) c0)) (p := ⟨w.heap.size, 1, none⟩) (.inl b_18) (.slice A1 (List.length r.2) c1))
  go_wp2_with fail
  generalize ((w3.setCell ⟨w.heap.size, 0, none⟩ (.slice A0 (List.length r.1) c0)).setCell ⟨w.heap.size, 1, none⟩ (.slice A1 (List.length r.2) c1)) = w9 at P9 D9 C9 Q9 ⊢
  have k90 : w9.cell? ⟨w.heap.size, 0, none⟩ = some (.slice A0 (List.length r.1) c0) := P9.cell 0
  have k91 : w9.cell? ⟨w.heap.size, 1, none⟩ = some (.slice A1 (List.length r.2) c1) := P9.cell 1
  refine bodyPost_ret (v := .agg #[.slice A0 (List.length r.1) c0, .slice A1 (List.length r.2) c1]) (by simp [results, Tryz.results27, go_sem, k90, k91]) rfl ?_
  exact ⟨D9, C9, _, r, rfl, Q9.mono b_22 Q9.1 (Nat.le_refl _), hok3⟩
end Go.Proofs.YtidnahocnhcoiaaGreatDoor
namespace Go.Proofs.YtidnahocnhcoiaaGreatDoor
open Go.Shelf Go.RowKit
set_option linter.unusedVariables false
def lays156_ren : Go.Shelf.Ren := ⟨fun | 156 => 83 | 165 => 93 | 166 => 94 | 169 => 95 | 240 => 103 | 241 => 104 | 276 => 108 | 277 => 109 | n => n, fun | 31 => 24 | 9 => 9 | 3 => 3 | 4 => 4 | 0 => 0 | 20 => 20 | 72 => 109 | 76 => 113 | 70 => 107 | 37 => 22 | 75 => 112 | 127 => 121 | 164 => 125 | 5 => 5 | 80 => 115 | n => n, fun | n => n⟩
theorem lays156 : Go.Proofs.Lays.n156 Tryz.prog lays156_ren := {
 mixed := by kernel_rfl
 f156 := Tryz.func83.trans (congrArg some b_20)
 f165 := Tryz.func93.trans (congrArg some b_20)
 f166 := Tryz.func94.trans (congrArg some b_20)
 f169 := Tryz.func95.trans (congrArg some b_20)
 f240 := Tryz.func103.trans (congrArg some b_20)
 f241 := Tryz.func104.trans (congrArg some b_20)
 f276 := Tryz.func108.trans (congrArg some b_20)
 f277 := Tryz.func109.trans (congrArg some b_20)
 t0 := Tryz.underlying0
 a0 := Tryz.isAgg0
 z0 := Tryz.sizeOf0
 v0 := Tryz.zeroValue0
 t3 := Tryz.underlying3
 a3 := Tryz.isAgg3
 z3 := Tryz.sizeOf3
 v3 := Tryz.zeroValue3
 t4 := Tryz.underlying4
 a4 := Tryz.isAgg4
 z4 := Tryz.sizeOf4
 v4 := Tryz.zeroValue4
 t9 := Tryz.underlying9
 a9 := Tryz.isAgg9
 z9 := Tryz.sizeOf9
 v9 := Tryz.zeroValue9
 t20 := Tryz.underlying20
 a20 := Tryz.isAgg20
 z20 := Tryz.sizeOf20
 v20 := Tryz.zeroValue20
 t31 := Tryz.underlying24
 a31 := Tryz.isAgg24
 z31 := Tryz.sizeOf24
 v31 := Tryz.zeroValue24
 t37 := Tryz.underlying22
 a37 := Tryz.isAgg22
 z37 := Tryz.sizeOf22
 v37 := Tryz.zeroValue22
 t70 := Tryz.underlying107
 a70 := Tryz.isAgg107
 z70 := Tryz.sizeOf107
 v70 := Tryz.zeroValue107
 t72 := Tryz.underlying109
 a72 := Tryz.isAgg109
 z72 := Tryz.sizeOf109
 v72 := Tryz.zeroValue109
 t75 := Tryz.underlying112
 a75 := Tryz.isAgg112
 z75 := Tryz.sizeOf112
 v75 := Tryz.zeroValue112
 t76 := Tryz.underlying113
 a76 := Tryz.isAgg113
 z76 := Tryz.sizeOf113
 v76 := Tryz.zeroValue113
 t127 := Tryz.underlying121
 a127 := Tryz.isAgg121
 z127 := Tryz.sizeOf121
 v127 := Tryz.zeroValue121
 t164 := Tryz.underlying125
 a164 := Tryz.isAgg125
 z164 := Tryz.sizeOf125
 v164 := Tryz.zeroValue125 }
theorem Builder_Extra_156 : Builder.Extra Tryz.prog lays156_ren := {
 sizeBuilder := by kernel_rfl
 liesBuilder := by kernel_rfl
 t5 := Tryz.underlying5
 a5 := Tryz.isAgg5
 z5 := Tryz.sizeOf5
 v5 := Tryz.zeroValue5
 infoByte := by kernel_rfl
 cellsByte := by kernel_rfl
 sizeByte := by kernel_rfl
 neB5 := by decide }
theorem strings_Join_none (a : Option Addr) (c : Nat) (sep : ByteArray) (w : World) :
  Calls Tryz.prog 83 #[.slice a 0 c, .string sep] w fun e w' => e = .returned (.string ⟨#[]⟩) ∧ w' = w := Any.strings_Join_none lays156 Builder_Extra_156 a c sep w
theorem strings_Join (bk o c : Nat) (xs : List ByteArray) (sep : ByteArray) (w : World) (hcells : ∀ (j : Nat) x, xs[j]? = some x → w.cell? ⟨bk, o + j, none⟩ = some (.string x)) (hbk : bk < w.heap.size) (hN : xs.length ≤ 140737488355328) (hcap : xs.length ≤ c) (hlen : (Lib.join (xs.map (·.data.toList)) sep.data.toList).length ≤ 140737488355328) :
  Calls Tryz.prog 83 #[.slice (some ⟨bk, o, none⟩) xs.length c, .string sep] w fun e w' => e = .returned (.string ⟨(Lib.join (xs.map (·.data.toList)) sep.data.toList).toArray⟩) ∧ Below w.heap.size w w' := Any.strings_Join lays156 Builder_Extra_156 bk o c xs sep w hcells hbk hN hcap hlen
end Go.Proofs.YtidnahocnhcoiaaGreatDoor
namespace Go.Proofs.YtidnahocnhcoiaaGreatDoor
open Go.RowKit
set_option linter.unusedVariables false
set_option linter.unusedSimpArgs false
def fmtK (p : List (List UInt8)) (k : Nat) : List UInt8 := ((p.take k).map (fun s => 47 :: s)).flatten
def fmtM (p : List (List UInt8)) (k : Nat) : List UInt8 := fmtK p k ++ [47]
def fmtP (p : List (List UInt8)) : List UInt8 := if p = [] then [47] else fmtK p p.length
theorem fmtK_succ {p : List (List UInt8)} {k : Nat} (h : k < p.length) : fmtM p k ++ p[k] = fmtK p (k + 1) := by
 unfold fmtM fmtK
 rw [List.take_succ_eq_append_getElem h, List.map_append, List.flatten_append]; simp
theorem fmtK_len (p : List (List UInt8)) (k : Nat) : (fmtK p k).length ≤ Ty.bulk (.sl .str) p := by
 have h1 : ∀ l : List (List UInt8), ((l.map (fun s => (47 : UInt8) :: s)).flatten).length = l.length + (l.map List.length).sum := by
  intro l
  induction l with
  | nil => rfl
  | cons a l ih => rw [List.map_cons, List.flatten_cons, List.length_append, ih, List.map_cons, List.sum_cons, List.length_cons, List.length_cons]; omega
 have h2 : (p.take k).length ≤ p.length := by rw [List.length_take]; omega
 have h3 : ((p.take k).map List.length).sum ≤ (p.map List.length).sum := by
  have := congrArg (fun l => (List.map List.length l).sum) (List.take_append_drop k p)
  simp only [List.map_append, List.sum_append] at this; omega
 have h4 : Ty.bulk (.sl .str) p = p.length + (p.map List.length).sum := rfl
 unfold fmtK
 rw [h1, h4]; omega
theorem fmtP_len (p : List (List UInt8)) : (fmtP p).length ≤ Ty.bulk (.sl .str) p + 1 := by
 unfold fmtP
 split
 ·simp
 ·have := fmtK_len p p.length; omega
theorem fmtP_join {p : List (List UInt8)} (h : p ≠ []) : [47] ++ Lib.join p [47] = fmtP p := by
 unfold fmtP
 rw [if_neg h]
 unfold fmtK
 rw [List.take_length]
 cases p with
 | nil => exact absurd rfl h
 | cons x r =>
  rw [Lib.join_cons]
  unfold Lib.joinTail
  rw [List.map_cons, List.flatten_cons]; rfl
theorem join_len (p : List (List UInt8)) (c : UInt8) : (Lib.join p [c]).length ≤ Ty.bulk (.sl .str) p := by
 cases p with
 | nil => show 0 ≤ _; exact Nat.zero_le _
 | cons x r =>
  rw [Lib.join_cons]
  unfold Lib.joinTail
  have h4 : Ty.bulk (.sl .str) (x :: r) = (r.length + 1) + (x.length + (r.map List.length).sum) := rfl
  have h1 : ∀ l : List (List UInt8), ((l.map (fun s => [c] ++ s)).flatten).length = l.length + (l.map List.length).sum := by
   intro l
   induction l with
   | nil => rfl
   | cons a l ih => rw [List.map_cons, List.flatten_cons, List.length_append, ih, List.map_cons, List.sum_cons, List.length_cons, List.length_append, List.length_singleton]; omega
  rw [List.length_append, h1, h4]; omega
theorem cat_eq {P : Program} (x y z : List UInt8) (h : x ++ y = z) (hl : z.length ≤ 9223372036854775807) : ∀ W : World, (Op.stringOp .add (⟨x.toArray⟩ : ByteArray) ⟨y.toArray⟩).run P W = .ok (vS z) W := by
 intro W
 subst h
 rw [run_string_add_sum W _ _ (by simp [ByteArray.size]; simpa using hl), ByteArray.mk_append_mk]
set_option maxHeartbeats 1000000 in
theorem C_spec_FormatName (w : World) (cs : List Value) (p : List (List UInt8)) (h : (Ty.sl .str).rd w cs p) (s0 : Ty.bulk (.sl .str) p ≤ 1000000000) :
  Calls Tryz.prog 68 #[.agg cs.toArray] w (RetStr w (fmtP p)) := by
 obtain ⟨A, c, rfl⟩ := Ty.rd_slv h
 obtain ⟨_, _, _, _, _, n0⟩ := Ty.rd_sl h
 go_enter Tryz.func68, Tryz.ntmps68
 go_wp2
 go_loopw [3, 4] (fun s i wr => ∃ k : Nat, k ≤ p.length ∧ i = .int .i64 k ∧ s = vS (fmtK p k) ∧ Below (w.alloc (.cells #[.slice A p.length c] 29)).heap.size (w.alloc (.cells #[.slice A p.length c] 29)) wr) (fun _ i _ => p.length - (intOf i).toNat)
 case atStart => exact ⟨0, by omega, rfl, rfl, Below.refl _ _⟩
 case round =>
  obtain ⟨k, hk, rfl, rfl, hb⟩ := hrel
  have hw : Below w.heap.size w wr := bel_trans b_2 hb
  obtain ⟨hc, hf⟩ := bcell hb
  by_cases hlt : k < p.length
  ·obtain ⟨b, o, rfl, e0, n1⟩ := Ty.rd_str_at (Ty.rd_below hw h) hlt
   have hl1 := fmtK_len p k
   have hl2 := fmtK_len p (k + 1)
   have hc1 := cat_eq (P := Tryz.prog) (fmtK p k) [47] (fmtM p k) rfl (by unfold fmtM; rw [List.length_append, List.length_singleton]; omega)
   have hc2 := cat_eq (P := Tryz.prog) (fmtM p k) p[k] (fmtK p (k + 1)) (fmtK_succ hlt) b_22
   go_wp2
   go_roundw
   case rel => exact ⟨k + 1, by omega, by go_num, rfl, hb⟩
   case measure => simp [intOf]; omega
  ·have hkp : k = p.length := by omega
   by_cases h0 : p.length = 0
   ·have hp : p = [] := List.eq_nil_of_length_eq_zero h0
    have HP : Hid (fmtP p = [47]) := by unfold Hid fmtP; rw [if_pos hp]
    have q0 : ((p.length : Int) == 0) = true := by simp [h0]
    clear hp h0 hkp
    go_wp2
    go_ret
    exact ⟨by rw [HP.out]; rfl, hw⟩
   ·have HP : Hid (fmtP p = fmtK p k) := by
     unfold Hid fmtP
     rw [if_neg (fun hp => h0 (by rw [hp]; rfl)), hkp]
    have q0 : ((p.length : Int) == 0) = false := by rw [beq_eq_false_iff_ne]; omega
    clear h0 hkp
    go_wp2
    go_ret
    exact ⟨by rw [HP.out]; rfl, hw⟩
set_option maxHeartbeats 1000000 in
theorem C_spec_FormatPattern (w : World) (cs : List Value) (p : List (List UInt8)) (h : (Ty.sl .str).rd w cs p) (s0 : Ty.bulk (.sl .str) p ≤ 1000000000) :
  Calls Tryz.prog 42 #[.agg cs.toArray] w (RetStr w (fmtP p)) := by
 obtain ⟨A, c, rfl⟩ := Ty.rd_slv h
 go_enter Tryz.func42, Tryz.ntmps42
 go_wp2_with fail
 refine (C_spec_FormatName _ _ p (Ty.rd_below b_2 h) s0).mono ?_
 rintro e w1 ⟨rfl, hb1⟩
 go_wp2
 go_ret
 exact ⟨rfl, b_0⟩
theorem C_Join (w : World) (v : Value) (p : List (List UInt8)) (c : UInt8) (h : (Ty.sl .str).rd w [v] p) (s0 : Ty.bulk (.sl .str) p ≤ 1000000000) :
  Calls Tryz.prog 83 #[v, .string ⟨#[c]⟩] w (RetStr w (Lib.join p [c])) := by
 obtain ⟨A, cc, rfl, hc, hm, hn⟩ := Ty.rd_sl h
 cases p with
 | nil =>
  refine (strings_Join_none A cc ⟨#[c]⟩ w).mono ?_
  rintro e w' ⟨rfl, rfl⟩
  exact ⟨rfl, Below.refl _ _⟩
 | cons x r =>
  obtain ⟨b, o, rfl, e0, _⟩ := Ty.rd_str_at (k := 0) h b_23
  have hlb : b < w.heap.size := World.block_lt_of_cell? w _ e0
  have hxl := Ty.bulk_len s0
  have hmm : ((x :: r).map (fun s => (⟨s.toArray⟩ : ByteArray))).map (·.data.toList) = x :: r := by
   rw [List.map_map]
   exact (List.map_congr_left (g := id) (fun a _ => by simp)).trans (List.map_id _)
  have hj := strings_Join b o cc ((x :: r).map (fun s => (⟨s.toArray⟩ : ByteArray))) ⟨#[c]⟩ w (fun j y hy => by
   rw [List.getElem?_map] at hy
   obtain ⟨s, hs, rfl⟩ := Option.map_eq_some_iff.1 hy
   obtain ⟨hj, rfl⟩ := List.getElem?_eq_some_iff.1 hs
   obtain ⟨b', o', he, e1, _⟩ := Ty.rd_str_at (k := j) h hj
   injection he with he
   injection he with he1 he2
   subst he1; subst he2
   exact e1) hlb (by rw [List.length_map]; omega) (by rw [List.length_map]; omega) (by rw [hmm]; have := join_len (x :: r) c; exact Nat.le_trans this b_22)
  rw [List.length_map] at hj
  refine hj.mono ?_
  rintro e w' ⟨rfl, hb⟩
  exact ⟨by rw [hmm], hb⟩
set_option maxHeartbeats 1000000 in
theorem C_impl_slashed (w : World) (v : Value) (p : List (List UInt8)) (h : (Ty.sl .str).rd w [v] p) (s0 : Ty.bulk (.sl .str) p ≤ 1000000000) :
  Calls Tryz.prog 67 #[v] w (RetStr w (fmtP p)) := by
 obtain ⟨A, c, rfl, hc, hm, hn⟩ := Ty.rd_sl h
 by_cases h0 : p.length = 0
 ·have hp : p = [] := List.eq_nil_of_length_eq_zero h0
  have HP : Hid (fmtP p = [47]) := by unfold Hid fmtP; rw [if_pos hp]
  have q0 : ((p.length : Int) == 0) = true := by simp [h0]
  clear hp h0
  go_enter Tryz.func67, Tryz.ntmps67
  go_wp2
  go_ret
  exact ⟨by rw [HP.out]; rfl, Below.refl _ _⟩
 ·have hp : p ≠ [] := fun hp => h0 (by rw [hp]; rfl)
  have q0 : ((p.length : Int) == 0) = false := by rw [beq_eq_false_iff_ne]; omega
  have hl := fmtP_len p
  have hc1 := cat_eq (P := Tryz.prog) [47] (Lib.join p [47]) (fmtP p) (fmtP_join hp) b_22
  clear h0 hp
  go_enter Tryz.func67, Tryz.ntmps67
  go_wp2_with fail
  refine (C_Join _ _ p 47 h s0).mono ?_
  rintro e w1 ⟨rfl, hb1⟩
  go_wp2
  go_ret
  exact ⟨rfl, hb1⟩
set_option maxHeartbeats 1000000 in
theorem C_impl_FormatPattern (w : World) (cs : List Value) (p : List (List UInt8)) (h : (Ty.sl .str).rd w cs p) (s0 : Ty.bulk (.sl .str) p ≤ 1000000000) :
  Calls Tryz.prog 41 #[.agg cs.toArray] w (RetStr w (fmtP p)) := by
 obtain ⟨A, c, rfl⟩ := Ty.rd_slv h
 go_enter Tryz.func41, Tryz.ntmps41
 go_wp2_with fail
 refine (C_impl_slashed _ _ p (Ty.rd_below b_2 h) s0).mono ?_
 rintro e w1 ⟨rfl, hb1⟩
 go_wp2
 go_ret
 exact ⟨rfl, b_0⟩
def fmtA (x : tRule.D) : List UInt8 := fmtP x.1 ++ [32, 60, 32]
def f_FormatRule (x : tRule.D) : List UInt8 := fmtA x ++ fmtP x.2
theorem rule_parts {x : tRule.D} (s0 : Ty.bulk tRule x ≤ 1048576) : Ty.bulk (.sl .str) x.1 ≤ 1000000000 ∧ Ty.bulk (.sl .str) x.2 ≤ 1000000000 := by
 have h1 : Ty.bulk (.sl .str) x.1 + Ty.bulk (.sl .str) x.2 ≤ 1048576 := s0
 exact ⟨by omega, by omega⟩
theorem fmtA_len {x : tRule.D} (s0 : Ty.bulk tRule x ≤ 1048576) : (fmtA x).length ≤ 1048580 := by
 have h1 : Ty.bulk (.sl .str) x.1 + Ty.bulk (.sl .str) x.2 ≤ 1048576 := s0
 have h2 := fmtP_len x.1
 unfold fmtA; rw [List.length_append]; simp; omega
theorem formatRule_len {x : tRule.D} (s0 : Ty.bulk tRule x ≤ 1048576) : (f_FormatRule x).length ≤ 2100000 := by
 have h1 : Ty.bulk (.sl .str) x.1 + Ty.bulk (.sl .str) x.2 ≤ 1048576 := s0
 have h2 := fmtA_len s0
 have h3 := fmtP_len x.2
 unfold f_FormatRule; rw [List.length_append]; omega
set_option maxHeartbeats 4000000 in
theorem C_spec_FormatRule (w : World) (cs : List Value) (x : tRule.D) (h : tRule.rd w cs x) (s0 : Ty.bulk tRule x ≤ 1048576) :
  Calls Tryz.prog 19 #[.agg cs.toArray] w (RetStr w (f_FormatRule x)) := by
 obtain ⟨A0, c0, A1, c1, rfl, g0, g1⟩ := rd_Rule h
 obtain ⟨b1, b2⟩ := rule_parts s0
 have hc1 := cat_eq (P := Tryz.prog) (fmtP x.1) [32, 60, 32] (fmtA x) rfl (Nat.le_trans (fmtA_len s0) b_21)
 have hc2 := cat_eq (P := Tryz.prog) (fmtA x) (fmtP x.2) (f_FormatRule x) rfl (Nat.le_trans (formatRule_len s0) b_21)
 have kb0 : (w.alloc (.cells #[.slice A0 (List.length x.1) c0, .slice A1 (List.length x.2) c1] 28)).cell? ⟨w.heap.size, 0, none⟩ = some (.slice A0 (List.length x.1) c0) := cell_new w _ _ 0 rfl
 have kb1 : (w.alloc (.cells #[.slice A0 (List.length x.1) c0, .slice A1 (List.length x.2) c1] 28)).cell? ⟨w.heap.size, 1, none⟩ = some (.slice A1 (List.length x.2) c1) := cell_new w _ _ 1 rfl
 have hvb : Below w.heap.size w (w.alloc (.cells #[.slice A0 (List.length x.1) c0, .slice A1 (List.length x.2) c1] 28)) := b_2
 have hzb : w.heap.size < (w.alloc (.cells #[.slice A0 (List.length x.1) c0, .slice A1 (List.length x.2) c1] 28)).heap.size := by rw [World.size_alloc]; omega
 go_enter Tryz.func19, Tryz.ntmps19
 go_wp2_with fail
 generalize w.alloc (.cells #[.slice A0 (List.length x.1) c0, .slice A1 (List.length x.2) c1] 28) = WB at kb0 kb1 hvb hzb ⊢
 have HS : Hid (∀ W, Below WB.heap.size WB W → Below w.heap.size w W ∧ W.cell? ⟨w.heap.size, 0, none⟩ = some (.slice A0 (List.length x.1) c0) ∧ W.cell? ⟨w.heap.size, 1, none⟩ = some (.slice A1 (List.length x.2) c1)) := fun W hW => ⟨bel_trans hvb hW, (hW.cell (p := ⟨w.heap.size, 0, none⟩) hzb).trans kb0, (hW.cell (p := ⟨w.heap.size, 1, none⟩) hzb).trans kb1⟩
 clear kb0 kb1
 have hv0 : Below WB.heap.size WB WB := Below.refl _ _
 set_option maxRecDepth 100000 in go_region_held3 (fun W => Below w.heap.size w W ∧ W.cell? ⟨w.heap.size, 0, none⟩ = some (.slice A0 (List.length x.1) c0) ∧ W.cell? ⟨w.heap.size, 1, none⟩ = some (.slice A1 (List.length x.2) c1)) (exact HS.out _ b_0)
  (first
   | (go_at_call 42; (with_reducible refine (C_spec_FormatPattern _ _ x.1 (Ty.rd_below b_0 (Ty.rd_below hvb g0)) b1).mono ?_); rintro e w1 ⟨rfl, hb1⟩)
   | (go_at_call 42; (with_reducible refine (C_spec_FormatPattern _ _ x.2 (Ty.rd_below b_0 (Ty.rd_below hvb g1)) b2).mono ?_); rintro e w2 ⟨rfl, hb2⟩)
   | fail)
 all_goals
  go_wp2
  go_ret
  exact ⟨rfl, b_0⟩
set_option maxHeartbeats 4000000 in
theorem C_impl_FormatRule (w : World) (cs : List Value) (x : tRule.D) (h : tRule.rd w cs x) (s0 : Ty.bulk tRule x ≤ 1048576) :
  Calls Tryz.prog 18 #[.agg cs.toArray] w (RetStr w (f_FormatRule x)) := by
 obtain ⟨A0, c0, A1, c1, rfl, g0, g1⟩ := rd_Rule h
 obtain ⟨b1, b2⟩ := rule_parts s0
 have hc1 := cat_eq (P := Tryz.prog) (fmtP x.1) [32, 60, 32] (fmtA x) rfl (Nat.le_trans (fmtA_len s0) b_21)
 have hc2 := cat_eq (P := Tryz.prog) (fmtA x) (fmtP x.2) (f_FormatRule x) rfl (Nat.le_trans (formatRule_len s0) b_21)
 have kb0 : (w.alloc (.cells #[.slice A0 (List.length x.1) c0, .slice A1 (List.length x.2) c1] 28)).cell? ⟨w.heap.size, 0, none⟩ = some (.slice A0 (List.length x.1) c0) := cell_new w _ _ 0 rfl
 have kb1 : (w.alloc (.cells #[.slice A0 (List.length x.1) c0, .slice A1 (List.length x.2) c1] 28)).cell? ⟨w.heap.size, 1, none⟩ = some (.slice A1 (List.length x.2) c1) := cell_new w _ _ 1 rfl
 have hvb : Below w.heap.size w (w.alloc (.cells #[.slice A0 (List.length x.1) c0, .slice A1 (List.length x.2) c1] 28)) := b_2
 have hzb : w.heap.size < (w.alloc (.cells #[.slice A0 (List.length x.1) c0, .slice A1 (List.length x.2) c1] 28)).heap.size := by rw [World.size_alloc]; omega
 go_enter Tryz.func18, Tryz.ntmps18
 go_wp2_with fail
 generalize w.alloc (.cells #[.slice A0 (List.length x.1) c0, .slice A1 (List.length x.2) c1] 28) = WB at kb0 kb1 hvb hzb ⊢
 have HS : Hid (∀ W, Below WB.heap.size WB W → Below w.heap.size w W ∧ W.cell? ⟨w.heap.size, 0, none⟩ = some (.slice A0 (List.length x.1) c0) ∧ W.cell? ⟨w.heap.size, 1, none⟩ = some (.slice A1 (List.length x.2) c1)) := fun W hW => ⟨bel_trans hvb hW, (hW.cell (p := ⟨w.heap.size, 0, none⟩) hzb).trans kb0, (hW.cell (p := ⟨w.heap.size, 1, none⟩) hzb).trans kb1⟩
 clear kb0 kb1
 have hv0 : Below WB.heap.size WB WB := Below.refl _ _
 set_option maxRecDepth 100000 in go_region_held3 (fun W => Below w.heap.size w W ∧ W.cell? ⟨w.heap.size, 0, none⟩ = some (.slice A0 (List.length x.1) c0) ∧ W.cell? ⟨w.heap.size, 1, none⟩ = some (.slice A1 (List.length x.2) c1)) (exact HS.out _ b_0)
  (first
   | (go_at_call 41; (with_reducible refine (C_impl_FormatPattern _ _ x.1 (Ty.rd_below b_0 (Ty.rd_below hvb g0)) b1).mono ?_); rintro e w1 ⟨rfl, hb1⟩)
   | (go_at_call 41; (with_reducible refine (C_impl_FormatPattern _ _ x.2 (Ty.rd_below b_0 (Ty.rd_below hvb g1)) b2).mono ?_); rintro e w2 ⟨rfl, hb2⟩)
   | fail)
 all_goals
  go_wp2
  go_ret
  exact ⟨rfl, b_0⟩
end Go.Proofs.YtidnahocnhcoiaaGreatDoor
namespace Go.Proofs.YtidnahocnhcoiaaGreatDoor
open Go.RowKit
set_option linter.unusedVariables false
set_option linter.unusedSimpArgs false
set_option maxHeartbeats 1000000 in
theorem C_spec_l10SamePat (w : World) (cs1 cs2 : List Value) (x y : List (List UInt8)) (h1 : (Ty.sl .str).rd w cs1 x) (h2 : (Ty.sl .str).rd w cs2 y) :
  Calls Tryz.prog 44 #[.agg cs1.toArray, .agg cs2.toArray] w (RetB w (decide (x = y))) := by
 obtain ⟨A1, c1, rfl⟩ := Ty.rd_slv h1
 obtain ⟨A2, c2, rfl⟩ := Ty.rd_slv h2
 go_enter Tryz.func44, Tryz.ntmps44
 go_wp2_with fail
 refine (C_spec_EqualNames _ _ _ _ _ (Ty.rd_below b_2 h1) (Ty.rd_below b_2 h2)).mono ?_
 rintro e w1 ⟨rfl, hb1⟩
 have hw1 : Below w.heap.size w w1 := bel_trans b_2 hb1
 go_wp2
 go_ret
 exact ⟨rfl, hw1⟩
set_option maxHeartbeats 1000000 in
theorem C_spec_EqualRules (w : World) (cs1 cs2 : List Value) (x y : tRule.D) (h1 : tRule.rd w cs1 x) (h2 : tRule.rd w cs2 y) :
  Calls Tryz.prog 21 #[.agg cs1.toArray, .agg cs2.toArray] w (RetB w (decide (x.1 = y.1) && decide (x.2 = y.2))) := by
 obtain ⟨A0, c0, A1, c1, rfl, g1, g2⟩ := rd_Rule h1
 obtain ⟨B0, d0, B1, d1, rfl, k1, k2⟩ := rd_Rule h2
 go_enter Tryz.func21, Tryz.ntmps21
 go_wp2_with fail
 refine (C_spec_l10SamePat _ _ _ _ _ (Ty.rd_below b_2 g1) (Ty.rd_below b_2 k1)).mono ?_
 rintro e w1 ⟨rfl, hb1⟩
 have hw1 : Below w.heap.size w w1 := bel_trans b_2 hb1
 obtain ⟨hc1, hf1⟩ := bcell hb1
 cases hq : decide (x.1 = y.1)
 ·go_wp2
  go_ret
  exact ⟨ret_bool (by rw [hq]; rfl), hw1⟩
 ·go_wp2_with fail
  refine (C_spec_l10SamePat _ _ _ _ _ (Ty.rd_below b_2 g2) (Ty.rd_below b_2 k2)).mono ?_
  rintro e w2 ⟨rfl, hb2⟩
  have hw2 : Below w.heap.size w w2 := bel_trans b_2 hb2
  go_wp2
  go_ret
  exact ⟨ret_bool (by rw [hq]; rfl), hw2⟩
set_option maxHeartbeats 1000000 in
theorem C_impl_EqualRules (w : World) (cs1 cs2 : List Value) (x y : tRule.D) (h1 : tRule.rd w cs1 x) (h2 : tRule.rd w cs2 y) :
  Calls Tryz.prog 20 #[.agg cs1.toArray, .agg cs2.toArray] w (RetB w (decide (x.1 = y.1) && decide (x.2 = y.2))) := by
 obtain ⟨A0, c0, A1, c1, rfl, g1, g2⟩ := rd_Rule h1
 obtain ⟨B0, d0, B1, d1, rfl, k1, k2⟩ := rd_Rule h2
 go_enter Tryz.func20, Tryz.ntmps20
 go_wp2_with fail
 refine (C_slices_Equal_str _ _ _ _ _ (Ty.rd_below b_2 g1) (Ty.rd_below b_2 k1)).mono ?_
 rintro e w1 ⟨rfl, hb1⟩
 have hw1 : Below w.heap.size w w1 := bel_trans b_2 hb1
 obtain ⟨hc1, hf1⟩ := bcell hb1
 cases hq : decide (x.1 = y.1)
 ·go_wp2
  go_ret
  exact ⟨ret_bool (by rw [hq]; rfl), hw1⟩
 ·go_wp2_with fail
  refine (C_slices_Equal_str _ _ _ _ _ (Ty.rd_below b_2 g2) (Ty.rd_below b_2 k2)).mono ?_
  rintro e w2 ⟨rfl, hb2⟩
  have hw2 : Below w.heap.size w w2 := bel_trans b_2 hb2
  go_wp2
  go_ret
  exact ⟨ret_bool (by rw [hq]; rfl), hw2⟩
theorem rl6 {s : List UInt8} (h : s ∈ [[47, 97, 47, 49], [47, 98, 47, 120, 45, 49], [47, 110, 101, 119, 115, 47, 107, 101, 121], [47, 97, 47, 107, 101, 121], [47, 110, 101, 119, 115, 47, 49], [47, 107, 101, 121, 47, 98]]) : okAny (pnS s).1 ∧ s.length ≤ 1000000 := by
 simp at h; rcases h with rfl | rfl | rfl | rfl | rfl | rfl <;> exact ⟨okAny.of _ b_21, by decide⟩
theorem rl5 {s : List UInt8} (h : s ∈ [[47, 107, 101, 121, 47, 97], [47, 107, 101, 121, 47, 98], [47, 97, 47, 107, 101, 121], [47, 110, 101, 119, 115, 47, 107, 101, 121], [47, 107, 101, 121, 47, 49]]) : okAny (pnS s).1 ∧ s.length ≤ 1000000 := by
 simp at h; rcases h with rfl | rfl | rfl | rfl | rfl <;> exact ⟨okAny.of _ b_21, by decide⟩
theorem stored1 {P W : World} {g : Nat} {t : TypeId} {a v0 : Value} (h : Blk P g t #[a]) (hw : W = P.setCell ⟨g, 0, none⟩ v0) :
  Blk W g t #[v0] ∧ (∀ q, q ≠ g → W.heap[q]? = P.heap[q]?) ∧ P.heap.size ≤ W.heap.size ∧ (∀ B, B < g → CurT P B → CurT W B) ∧ ∀ (B : Nat) (w0 : World), w0.heap.size ≤ g → Dr B w0 P → Dr B w0 W := by
 subst hw
 exact ⟨h.set_ 0 v0, fun q hq => Below.heap_setCell _ _ _ _ hq, by rw [World.size_setCell]; exact Nat.le_refl _, fun B hB hc => Cur.far hc hB v0, fun B w0 h0 hd => Dr.set hd (.inr h0) v0⟩
theorem blk1 {w : World} {g : Nat} {t : TypeId} {a : Value} (h : Blk w g t #[a]) : w.cell? ⟨g, 0, none⟩ = some a ∧ w.frozen? ⟨g, 0, none⟩ = false := ⟨h.cell 0, h.frozen 0⟩
theorem stored2r {P W : World} {g : Nat} {t : TypeId} {a b v0 v1 : Value} (h : Blk P g t #[a, b]) (hw : W = (P.setCell ⟨g, 0, none⟩ v0).setCell ⟨g, 1, none⟩ v1) :
  Blk W g t #[v0, v1] ∧ (∀ q, q ≠ g → W.heap[q]? = P.heap[q]?) ∧ P.heap.size ≤ W.heap.size ∧ ∀ (B : Nat) (w0 : World), w0.heap.size ≤ g → Dr B w0 P → Dr B w0 W := by
 subst hw
 exact ⟨(h.set_ 0 v0).set_ 1 v1, fun q hq => by rw [Below.heap_setCell _ _ _ _ hq, Below.heap_setCell _ _ _ _ hq], by simp only [World.size_setCell]; exact Nat.le_refl _, fun B w0 h0 hd => Dr.set (Dr.set hd (.inr h0) v0) (.inr h0) v1⟩
theorem blk2r {w : World} {g : Nat} {t : TypeId} {a b : Value} (h : Blk w g t #[a, b]) : w.cell? ⟨g, 0, none⟩ = some a ∧ w.cell? ⟨g, 1, none⟩ = some b ∧ w.frozen? ⟨g, 0, none⟩ = false ∧ w.frozen? ⟨g, 1, none⟩ = false := ⟨h.cell 0, h.cell 1, h.frozen 0, h.frozen 1⟩
theorem stored1d {P W : World} {g : Nat} {t : TypeId} {a v0 : Value} (h : Blk P g t #[a]) (hw : W = P.setCell ⟨g, 0, none⟩ v0 ∨ W = (P.setCell ⟨g, 0, none⟩ v0).drew) :
  Blk W g t #[v0] ∧ (∀ q, q ≠ g → W.heap[q]? = P.heap[q]?) ∧ P.heap.size ≤ W.heap.size ∧ (∀ B, B < g → CurT P B → CurT W B) ∧ ∀ (B : Nat) (w0 : World), w0.heap.size ≤ g → Dr B w0 P → Dr B w0 W := by
 obtain ⟨h1, h2, h3, h4, h5⟩ := stored1 (v0 := v0) h rfl
 rcases hw with rfl | rfl
 ·exact ⟨h1, h2, h3, h4, h5⟩
 ·exact ⟨h1.drew, fun q hq => h2 q hq, h3, fun B hB hc => (h4 B hB hc).drew, fun B w0 h0 hd => (h5 B w0 h0 hd).drew⟩
def DrNN (w : World) (e : Ending) (w' : World) : Prop := ∃ A n c A' k c', e = .returned (.tuple #[.agg #[.slice A (List.length n) c], .agg #[.slice A' (List.length k) c']]) ∧ RdI (.sl .str) w.heap.size w'.heap.size w' [.slice A (List.length n) c] n ∧ okAny n ∧ RdI (.sl .str) w.heap.size w'.heap.size w' [.slice A' (List.length k) c'] k ∧ okAny k
set_option maxRecDepth 100000 in
set_option maxHeartbeats 4000000 in
theorem C_spec_l10Names (w : World) (B : Nat) (hc : CurT w B) :
  Calls Tryz.prog 28 #[pB B] w (RetDT B w (DrNN w)) := by
 have hB := hc.lt
 go_enter Tryz.func28, Tryz.ntmps28
 go_wp2_with fail
 refine Calls.mono (C_spec_l1Str _ B _ [[47, 97, 47, 49], [47, 98, 47, 120, 45, 49], [47, 110, 101, 119, 115, 47, 107, 101, 121], [47, 97, 47, 107, 101, 121], [47, 110, 101, 119, 115, 47, 49], [47, 107, 101, 121, 47, 98]] b_4 b_3 b_21 b_21) ?_
 rintro e w1 ⟨hd1, hc1, s1, hs, rfl⟩
 have hf := rl6 hs
 have hl1 := hf.2
 have HOK1 := Lib.hid hf.1
 have D1 : Dr B w w1 := b_1
 have z1 := hd1.size
 simp only [World.size_alloc, World.size_drew, size_drewN] at z1
 have hPn := Blk.new (w.alloc (.cells #[.slice none 0 0] 29)) 29 #[.slice none 0 0]
 rw [World.size_alloc] at hPn
 have hOn := Blk.new w 29 #[.slice none 0 0]
 have hO1 : Blk w1 w.heap.size 29 #[.slice none 0 0] := Dr.blk hd1 (by repeat' (first | (with_reducible exact hOn) | (with_reducible refine Blk.drew ?_) | (with_reducible refine Blk.drewN ?_ _) | (with_reducible refine Blk.alloc ?_ _))) b_22
 have hP1 : Blk w1 (w.heap.size + 1) 29 #[.slice none 0 0] := Dr.blk hd1 (by repeat' (first | (with_reducible exact hPn) | (with_reducible refine Blk.drew ?_) | (with_reducible refine Blk.drewN ?_ _) | (with_reducible refine Blk.alloc ?_ _))) b_22
 clear hPn hOn
 clear hs hf hd1
 go_wp2_with fail
 refine Calls.mono (C_spec_l4Of _ s1 b_22) ?_
 rintro e w2 ⟨cs2, fp2, rfl, how, hfr, hb⟩
 obtain ⟨A, c, rfl⟩ := Ty.ow_slv how
 have z2 := hb.size
 have D2 := D1.then_ hb
 have hc2 : CurT w2 B := Cur.below hc1 hb
 have hO2 := hO1.below hb hO1.lt
 have hP2 := hP1.below hb hP1.lt
 have q2 := RdI.of_owF how hfr (Nat.le_refl _)
 clear how hfr hb D1 hc1 hO1 hP1
 generalize (pnS s1).1 = n at q2 HOK1 ⊢
 obtain ⟨w3, hw3⟩ : ∃ V, V = w2.alloc (.cells #[.slice A (List.length n) c] 29) := ⟨_, rfl⟩
 have E3 : Dr B w2 w3 := by rw [hw3]; exact new_dr B w2 _
 have hc3 : CurT w3 B := by rw [hw3]; exact hc2.alloc _
 have hN3 : Blk w3 w2.heap.size 29 #[.slice A (List.length n) c] := by rw [hw3]; exact Blk.new _ _ _
 have z3 := hN3.lt
 have D3 := D2.trans E3
 have hO3 := Dr.blk E3 hO2 b_22
 have hP3 := Dr.blk E3 hP2 b_22
 have q3 := q2.dr E3 b_22
 clear E3 D2 hc2 hO2 hP2 q2
 go_wp2_with fail
 rw [← hw3]
 (try rw [show w2.heap.size + 1 = w3.heap.size from by rw [hw3, World.size_alloc]])
 clear hw3
 refine Calls.mono (C_spec_l1Str _ B _ [[47, 107, 101, 121, 47, 97], [47, 107, 101, 121, 47, 98], [47, 97, 47, 107, 101, 121], [47, 110, 101, 119, 115, 47, 107, 101, 121], [47, 107, 101, 121, 47, 49]] b_4 b_3 b_21 b_21) ?_
 rintro e w4 ⟨hd4, hc4, s4, hs, rfl⟩
 have hf := rl5 hs
 have hl4 := hf.2
 have HOK4 := Lib.hid hf.1
 have E4 : Dr B w3 w4 := b_1
 have z4 := E4.size
 have D4 := D3.trans E4
 have hO4 := Dr.blk E4 hO3 b_22
 have hP4 := Dr.blk E4 hP3 b_22
 have hN4 := Dr.blk E4 hN3 b_22
 have q4 := q3.dr E4 b_22
 clear E4 D3 hc3 hO3 hP3 hN3 q3
 clear hs hf hd4
 go_wp2_with fail
 refine Calls.mono (C_spec_l4Of _ s4 b_22) ?_
 rintro e w5 ⟨cs5, fp5, rfl, how, hfr, hb⟩
 obtain ⟨A', c', rfl⟩ := Ty.ow_slv how
 have z5 := hb.size
 have D5 := D4.then_ hb
 have hc5 : CurT w5 B := Cur.below hc4 hb
 have hO5 := hO4.below hb hO4.lt
 have hP5 := hP4.below hb hP4.lt
 have hN5 := hN4.below hb hN4.lt
 have q5 := q4.below hb
 have r5 := RdI.of_owF how hfr (Nat.le_refl _)
 clear how hfr hb D4 hc4 hO4 hP4 hN4 q4
 generalize (pnS s4).1 = k at r5 HOK4 ⊢
 obtain ⟨w6, hw6⟩ : ∃ V, V = w5.alloc (.cells #[.slice A' (List.length k) c'] 29) := ⟨_, rfl⟩
 have E6 : Dr B w5 w6 := by rw [hw6]; exact new_dr B w5 _
 have hc6 : CurT w6 B := by rw [hw6]; exact hc5.alloc _
 have hK6 : Blk w6 w5.heap.size 29 #[.slice A' (List.length k) c'] := by rw [hw6]; exact Blk.new _ _ _
 have z6 := hK6.lt
 have D6 := D5.trans E6
 have hO6 := Dr.blk E6 hO5 b_22
 have hP6 := Dr.blk E6 hP5 b_22
 have hN6 := Dr.blk E6 hN5 b_22
 have q6 := q5.dr E6 b_22
 have r6 := r5.dr E6 b_22
 clear E6 D5 hc5 hO5 hP5 hN5 q5 r5
 go_wp2_with fail
 rw [← hw6]
 (try rw [show w5.heap.size + 1 = w6.heap.size from by rw [hw6, World.size_alloc]])
 clear hw6
 refine Calls.mono (C_spec_l1Once _ B 5 b_4 b_21 b_21) ?_
 rintro e w7 ⟨hd7, hc7, bo, rfl⟩
 have E7 : Dr B w6 w7 := b_1
 have z7 := E7.size
 have D7 := D6.trans E7
 have hO7 := Dr.blk E7 hO6 b_22
 have hP7 := Dr.blk E7 hP6 b_22
 have hN7 := Dr.blk E7 hN6 b_22
 have hK7 := Dr.blk E7 hK6 b_22
 have q7 := q6.dr E7 b_22
 have r7 := r6.dr E7 b_22
 clear hd7 E7 D6 hc6 hO6 hP6 hN6 hK6 q6 r6
 cases bo with
 | false =>
  go_wp2_with fail
  refine wp_region_noPanic ?_
  refine wp_region_held_drew (S := (fun V => V.cell? ⟨w2.heap.size, 0, none⟩ = some (.slice A (List.length n) c) ∧ V.cell? ⟨w5.heap.size, 0, none⟩ = some (.slice A' (List.length k) c'))) b_20 ?_ (fun hHeld => ?_)
  ·exact ⟨hN7.cell 0, hK7.cell 0⟩
  refine tkz2 0 1 ?_
  try simp only [layz]
  refine rz1 2 (fun K hK => ?_)
  obtain ⟨p0, g0⟩ := blk1 hO7
  have zp := hO7.lt
  go_simp
  refine abs_world (fun wO hw => ?_)
  have hw' : wO = (w7.setCell ⟨w.heap.size, 0, none⟩ (.slice A (List.length n) c)) ∨ wO = (w7.setCell ⟨w.heap.size, 0, none⟩ (.slice A (List.length n) c)).drew := by first | exact .inl hw | exact .inr hw
  obtain ⟨hX, hk, hs, C, F⟩ := stored1d hO7 hw'
  clear hw'
  have hOOO := hX
  have DO := Lib.hid (F B w b_22 D7)
  have CO := C B b_22 hc7
  have qO := q7.keep hs (fun x h1 h2 => hk x b_22)
  have rO := r7.keep hs (fun x h1 h2 => hk x b_22)
  have hNO : Blk wO w2.heap.size 29 #[.slice A (List.length n) c] := (hk _ b_22).trans hN7
  have hKO : Blk wO w5.heap.size 29 #[.slice A' (List.length k) c'] := (hk _ b_22).trans hK7
  have hPO : Blk wO (w.heap.size + 1) 29 #[.slice none 0 0] := (hk _ b_22).trans hP7
  clear p0 g0 zp hw hk hs C F hX
  refine hK.out _ _ (⟨hNO.cell 0, hKO.cell 0⟩) (fun hHeld => ?_)
  clear hK K
  try simp only [layz]
  refine rz1 3 (fun K hK => ?_)
  obtain ⟨p0, g0⟩ := blk1 hPO
  have zp := hPO.lt
  go_simp
  refine abs_world (fun wP hw => ?_)
  obtain ⟨hX, hk, hs, C, F⟩ := stored1 (v0 := .slice A' (List.length k) c') hPO hw
  have hPPP := hX
  have DP := Lib.hid (F B w b_22 DO.out)
  have CP := C B b_22 CO
  have qP := qO.keep hs (fun x h1 h2 => hk x b_22)
  have rP := rO.keep hs (fun x h1 h2 => hk x b_22)
  have hNP : Blk wP w2.heap.size 29 #[.slice A (List.length n) c] := (hk _ b_22).trans hNO
  have hKP : Blk wP w5.heap.size 29 #[.slice A' (List.length k) c'] := (hk _ b_22).trans hKO
  have hOP : Blk wP w.heap.size 29 #[.slice A (List.length n) c] := (hk _ b_22).trans hOOO
  clear p0 g0 zp hw hk hs C F hX
  refine hK.out _ _ (⟨hNP.cell 0, hKP.cell 0⟩) (fun hHeld => ?_)
  clear hK K
  try simp only [layz]
  refine wpAnyH_done b_20 ?_ _
  refine NoPanic.normal ?_
  go_wp2
  have o0 := hOP.cell 0
  have p0 := hPPP.cell 0
  refine bodyPost_ret (v := .tuple #[.agg #[.slice A (List.length n) c], .agg #[.slice A' (List.length k) c']]) (by simp [results, Tryz.results28, go_sem, o0, p0]) rfl ?_
  exact ⟨DP.out, CP, A, n, c, A', k, c', rfl, qP.mono b_22 qP.1 (Nat.le_refl _), HOK1.out, rP.mono b_22 rP.1 (Nat.le_refl _), HOK4.out⟩
 | true =>
  go_wp2_with fail
  refine Calls.mono (C_spec_l4Any _ B b_4) ?_
  rintro e w8 ⟨hd8, hc8, cs8, m, rfl, q8, hokm⟩
  obtain ⟨Am, cm, rfl⟩ := Ty.rd_slv q8.rd
  have E8 : Dr B w7 w8 := b_1
  have z8 := E8.size
  have D8 := D7.trans E8
  have hO8 := Dr.blk E8 hO7 b_22
  have hP8 := Dr.blk E8 hP7 b_22
  have hN8 := Dr.blk E8 hN7 b_22
  have hK8 := Dr.blk E8 hK7 b_22
  have r8 := r7.dr E8 b_22
  clear hd8 E8 D7 hc7 hO7 hP7 hN7 hK7 q7 r7
  obtain ⟨w9, hw9⟩ : ∃ V, V = w8.setCell ⟨w2.heap.size, 0, none⟩ (.slice Am (List.length m) cm) := ⟨_, rfl⟩
  obtain ⟨hN9, hk, hs, C, F⟩ := stored1 hN8 hw9
  have D9 := F B w b_22 D8
  have hc9 := C B b_22 hc8
  have hO9 : Blk w9 w.heap.size 29 #[.slice none 0 0] := (hk _ b_22).trans hO8
  have hP9 : Blk w9 (w.heap.size + 1) 29 #[.slice none 0 0] := (hk _ b_22).trans hP8
  have hK9 : Blk w9 w5.heap.size 29 #[.slice A' (List.length k) c'] := (hk _ b_22).trans hK8
  have q9 := q8.keep hs (fun x h1 h2 => hk x b_22)
  have r9 := r8.keep hs (fun x h1 h2 => hk x b_22)
  obtain ⟨n0, g0⟩ := blk1 hN8
  have zn := hN8.lt
  go_wp2_with fail
  rw [← hw9]
  clear hw9 n0 g0 zn hk hs C F D8 hc8 hO8 hP8 hN8 hK8 q8 r8
  refine wp_region_noPanic ?_
  refine wp_region_held_drew (S := (fun V => V.cell? ⟨w2.heap.size, 0, none⟩ = some (.slice Am (List.length m) cm) ∧ V.cell? ⟨w5.heap.size, 0, none⟩ = some (.slice A' (List.length k) c'))) b_20 ?_ (fun hHeld => ?_)
  ·exact ⟨hN9.cell 0, hK9.cell 0⟩
  refine tkz2 0 1 ?_
  try simp only [layz]
  refine rz1 2 (fun K hK => ?_)
  obtain ⟨p0, g0⟩ := blk1 hO9
  have zp := hO9.lt
  go_simp
  refine abs_world (fun wO hw => ?_)
  have hw' : wO = (w9.setCell ⟨w.heap.size, 0, none⟩ (.slice Am (List.length m) cm)) ∨ wO = (w9.setCell ⟨w.heap.size, 0, none⟩ (.slice Am (List.length m) cm)).drew := by first | exact .inl hw | exact .inr hw
  obtain ⟨hX, hk, hs, C, F⟩ := stored1d hO9 hw'
  clear hw'
  have hOOO := hX
  have DO := Lib.hid (F B w b_22 D9)
  have CO := C B b_22 hc9
  have qO := q9.keep hs (fun x h1 h2 => hk x b_22)
  have rO := r9.keep hs (fun x h1 h2 => hk x b_22)
  have hNO : Blk wO w2.heap.size 29 #[.slice Am (List.length m) cm] := (hk _ b_22).trans hN9
  have hKO : Blk wO w5.heap.size 29 #[.slice A' (List.length k) c'] := (hk _ b_22).trans hK9
  have hPO : Blk wO (w.heap.size + 1) 29 #[.slice none 0 0] := (hk _ b_22).trans hP9
  clear p0 g0 zp hw hk hs C F hX
  refine hK.out _ _ (⟨hNO.cell 0, hKO.cell 0⟩) (fun hHeld => ?_)
  clear hK K
  try simp only [layz]
  refine rz1 3 (fun K hK => ?_)
  obtain ⟨p0, g0⟩ := blk1 hPO
  have zp := hPO.lt
  go_simp
  refine abs_world (fun wP hw => ?_)
  obtain ⟨hX, hk, hs, C, F⟩ := stored1 (v0 := .slice A' (List.length k) c') hPO hw
  have hPPP := hX
  have DP := Lib.hid (F B w b_22 DO.out)
  have CP := C B b_22 CO
  have qP := qO.keep hs (fun x h1 h2 => hk x b_22)
  have rP := rO.keep hs (fun x h1 h2 => hk x b_22)
  have hNP : Blk wP w2.heap.size 29 #[.slice Am (List.length m) cm] := (hk _ b_22).trans hNO
  have hKP : Blk wP w5.heap.size 29 #[.slice A' (List.length k) c'] := (hk _ b_22).trans hKO
  have hOP : Blk wP w.heap.size 29 #[.slice Am (List.length m) cm] := (hk _ b_22).trans hOOO
  clear p0 g0 zp hw hk hs C F hX
  refine hK.out _ _ (⟨hNP.cell 0, hKP.cell 0⟩) (fun hHeld => ?_)
  clear hK K
  try simp only [layz]
  refine wpAnyH_done b_20 ?_ _
  refine NoPanic.normal ?_
  go_wp2
  have o0 := hOP.cell 0
  have p0 := hPPP.cell 0
  refine bodyPost_ret (v := .tuple #[.agg #[.slice Am (List.length m) cm], .agg #[.slice A' (List.length k) c']]) (by simp [results, Tryz.results28, go_sem, o0, p0]) rfl ?_
  exact ⟨DP.out, CP, Am, m, cm, A', k, c', rfl, qP.mono b_22 qP.1 (Nat.le_refl _), hokm, rP.mono b_22 rP.1 (Nat.le_refl _), HOK4.out⟩
end Go.Proofs.YtidnahocnhcoiaaGreatDoor
