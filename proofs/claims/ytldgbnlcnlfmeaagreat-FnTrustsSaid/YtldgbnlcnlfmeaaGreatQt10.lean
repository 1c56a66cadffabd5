/- Texts of this claim, merged by a program: Vrs Pss Mat. -/
import Derived.Test.YtldgbnlcnlfmeaaGreatQtP
import Derived.Test.YtldgbnlcnlfmeaaGreatQt9
import Derived.Test.YtldgbnlcnlfmeaaGreatQt1
import Derived.Test.YtldgbnlcnlfmeaaGreatQt2
import Derived.Test.YtldgbnlcnlfmeaaGreatQt3
namespace Go.Proofs.YtldgbnlcnlfmeaaGreat
open Go.RowKit
set_option linter.unusedVariables false
set_option linter.unusedSimpArgs false
set_option maxHeartbeats 4000000 in
theorem C_spec_ValidRule (w : World) (cs : List Value) (x : tRule.D) (h : tRule.rd w cs x) (s0 : Ty.bulk tRule x ≤ 1048576) :
  Calls Tryz.prog 123 #[.agg cs.toArray] w (RetB w (validRule x)) := by
 obtain ⟨A0, c0, A1, c1, rfl, g0, g1⟩ := rd_Rule h
 obtain ⟨_, _, _, _, _, n1⟩ := Ty.rd_sl g1
 have HF := Lib.hid (validRule_eq x)
 have kb0 : (w.alloc (.cells #[.slice A0 (List.length x.1) c0, .slice A1 (List.length x.2) c1] 128)).cell? ⟨w.heap.size, 0, none⟩ = some (.slice A0 (List.length x.1) c0) := cell_new w _ _ 0 rfl
 have kb1 : (w.alloc (.cells #[.slice A0 (List.length x.1) c0, .slice A1 (List.length x.2) c1] 128)).cell? ⟨w.heap.size, 1, none⟩ = some (.slice A1 (List.length x.2) c1) := cell_new w _ _ 1 rfl
 have hvb : Below w.heap.size w (w.alloc (.cells #[.slice A0 (List.length x.1) c0, .slice A1 (List.length x.2) c1] 128)) := b_10
 have hzb : w.heap.size < (w.alloc (.cells #[.slice A0 (List.length x.1) c0, .slice A1 (List.length x.2) c1] 128)).heap.size := by rw [World.size_alloc]; omega
 go_enter Tryz.func123, Tryz.ntmps123
 go_wp2_with fail
 generalize w.alloc (.cells #[.slice A0 (List.length x.1) c0, .slice A1 (List.length x.2) c1] 128) = WB at kb0 kb1 hvb hzb ⊢
 refine (C_spec_ValidPattern _ _ _ (Ty.rd_below hvb g0)).mono ?_
 rintro e w1 ⟨rfl, hb1⟩
 have HC : Hid (∀ W, Below WB.heap.size WB W → W.cell? ⟨w.heap.size, 0, none⟩ = some (.slice A0 (List.length x.1) c0) ∧ W.cell? ⟨w.heap.size, 1, none⟩ = some (.slice A1 (List.length x.2) c1)) := fun W hW => ⟨(hW.cell (p := ⟨w.heap.size, 0, none⟩) hzb).trans kb0, (hW.cell (p := ⟨w.heap.size, 1, none⟩) hzb).trans kb1⟩
 clear kb0 kb1
 obtain ⟨k10, k11⟩ := HC.out _ hb1
 have hw1 : Below w.heap.size w w1 := bel_trans hvb hb1
 cases q0 : validPat x.1
 ·rw [q0] at HF
  go_wp2
  go_ret
  exact ⟨ret_bool (by rw [HF.out]; rfl), hw1⟩
 rw [q0] at HF
 go_wp2_with fail
 refine (C_spec_ValidPattern _ _ _ (Ty.rd_below hw1 g1)).mono ?_
 rintro e w2 ⟨rfl, hb2⟩
 have hv2 : Below WB.heap.size WB w2 := bel_trans hb1 hb2
 clear k10 k11
 obtain ⟨k20, k21⟩ := HC.out _ hv2
 have hw2 : Below w.heap.size w w2 := bel_trans hvb hv2
 cases q1 : validPat x.2
 ·rw [q1] at HF
  go_wp2
  go_ret
  exact ⟨ret_bool (by rw [HF.out]; rfl), hw2⟩
 rw [q1] at HF
 go_wp2
 clear k20 k21
 go_loopw [3] (fun i wr => ∃ k : Nat, k ≤ x.2.length ∧ i = .int .i64 k ∧ (List.take k x.2).all (vrP x.1) = true ∧ Below WB.heap.size WB wr) (fun i _ => x.2.length - (intOf i).toNat)
 case atStart => exact ⟨0, by omega, rfl, by first | rfl | simp, hv2⟩
 case round =>
  obtain ⟨k, hk, rfl, ht, hb⟩ := hrel
  have hw : Below w.heap.size w wr := bel_trans hvb hb
  obtain ⟨k0, k1⟩ := HC.out _ hb
  have HT := Lib.hid ht
  clear ht
  by_cases hlt : k < x.2.length
  ·have HS := Lib.hid (all_take_succ (vrP x.1) x.2 hlt)
   have HN := Lib.hid (fun q => all_false_of (vrP x.1) x.2 hlt q)
   obtain ⟨b, o, ds, rfl, hl, hcell, hrd⟩ := Ty.rd_at (Ty.rd_below hw g1) hlt
   obtain ⟨rfl, hsl⟩ := hrd
   have e0 : wr.cell? ⟨b, o + k, none⟩ = some (vS x.2[k]) := by simpa [Ty.sz] using hcell 0 b_36
   have HP := Lib.hid (show vrP x.1 x.2[k] = (!isVar x.2[k] || x.1.any (eqs x.2[k])) from rfl)
   clear hcell hl
   have hlb : b < wr.heap.size := World.block_lt_of_cell? wr _ e0
   have HH : Hid (∀ W, Below wr.heap.size wr W → Below WB.heap.size WB W ∧ W.cell? ⟨w.heap.size, 0, none⟩ = some (.slice A0 (List.length x.1) c0) ∧ W.cell? ⟨w.heap.size, 1, none⟩ = some (.slice (some ⟨b, o, none⟩) (List.length x.2) c1) ∧ W.cell? ⟨b, o + k, none⟩ = some (vS x.2[k])) := fun W hW =>
    ⟨bel_trans hb hW, (HC.out _ (bel_trans hb hW)).1, (HC.out _ (bel_trans hb hW)).2, (hW.cell (p := ⟨b, o + k, none⟩) hlb).trans e0⟩
   have hv0 : Below wr.heap.size wr wr := Below.refl _ _
   have i0 : (0 : Int) ≤ (k : Int) := by omega
   have i1 : (k : Int) < (x.2.length : Int) := by omega
   cases q3 : isVar x.2[k]
   ·rw [q3] at HP
    go_wp2_with fail
    refine wp_region_noPanic ?_
    refine wp_region_held_drew (S := (fun W => Below WB.heap.size WB W ∧ W.cell? ⟨w.heap.size, 0, none⟩ = some (.slice A0 (List.length x.1) c0) ∧ W.cell? ⟨w.heap.size, 1, none⟩ = some (.slice (some ⟨b, o, none⟩) (List.length x.2) c1) ∧ W.cell? ⟨b, o + k, none⟩ = some (vS x.2[k]))) b_35 ?_ (fun hHeld => ?_)
    ·exact HH.out _ b_10
    refine tkz4 0 1 2 3 ?_
    try simp only [layz]
    refine tkz2 4 5 ?_
    try simp only [layz]
    refine rz1 6 (fun K hK => ?_)
    go_simp
    go_at_call 159
    refine (C_spec_l5Letter _ _ hsl).mono ?_
    rw [q3]
    rintro e w3 ⟨rfl, hw3⟩
    subst hw3
    refine hK.out _ _ (HH.out _ b_10) (fun hHeld => ?_)
    clear hK K
    try simp only [layz]
    refine tkz 7 ?_
    try simp only [layz]
    refine skz 8 ?_
    try simp only [layz]
    refine skz 9 ?_
    try simp only [layz]
    refine skz 10 ?_
    try simp only [layz]
    refine skz 11 ?_
    try simp only [layz]
    refine skz 12 ?_
    try simp only [layz]
    refine skz 13 ?_
    try simp only [layz]
    refine skz 14 ?_
    try simp only [layz]
    refine skz 15 ?_
    try simp only [layz]
    refine skz 16 ?_
    try simp only [layz]
    refine skz 17 ?_
    try simp only [layz]
    refine tkz 18 ?_
    try simp only [layz]
    refine wpAnyH_done b_35 ?_ _
    refine NoPanic.normal ?_
    go_wp2
    exact ⟨⟨k + 1, by omega, by go_num, by rw [HS.out, HT.out, HP.out]; rfl, b_4⟩, by simp [intOf]; omega⟩
   ·rw [q3] at HP
    cases q4 : x.1.any (eqs x.2[k])
    ·rw [q4] at HP
     go_wp2_with fail
     refine wp_region_noPanic ?_
     refine wp_region_held_drew (S := (fun W => Below WB.heap.size WB W ∧ W.cell? ⟨w.heap.size, 0, none⟩ = some (.slice A0 (List.length x.1) c0) ∧ W.cell? ⟨w.heap.size, 1, none⟩ = some (.slice (some ⟨b, o, none⟩) (List.length x.2) c1) ∧ W.cell? ⟨b, o + k, none⟩ = some (vS x.2[k]))) b_35 ?_ (fun hHeld => ?_)
     ·exact HH.out _ b_10
     refine tkz4 0 1 2 3 ?_
     try simp only [layz]
     refine tkz2 4 5 ?_
     try simp only [layz]
     refine rz1 6 (fun K hK => ?_)
     go_simp
     go_at_call 159
     refine (C_spec_l5Letter _ _ hsl).mono ?_
     rw [q3]
     rintro e w3 ⟨rfl, hw3⟩
     subst hw3
     refine hK.out _ _ (HH.out _ b_10) (fun hHeld => ?_)
     clear hK K
     try simp only [layz]
     refine tkz4 7 8 9 10 ?_
     try simp only [layz]
     refine tkz4 11 12 13 14 ?_
     try simp only [layz]
     refine tkz 15 ?_
     try simp only [layz]
     refine rz1 16 (fun K hK => ?_)
     go_simp
     go_at_call 160
     refine (C_spec_l10Has _ _ x.1 _ (Ty.rd_below b_4 (Ty.rd_below hw g0)) hsl).mono ?_
     rw [q4]
     rintro e w4 ⟨rfl, hb4⟩
     refine hK.out _ _ (HH.out _ b_4) (fun hHeld => ?_)
     clear hK K
     try simp only [layz]
     refine tkz2 17 18 ?_
     try simp only [layz]
     refine wpAnyH_done b_35 ?_ _
     refine NoPanic.normal ?_
     go_wp2
     go_ret
     exact ⟨ret_bool (by rw [HF.out, HN.out HP.out]; rfl), b_4⟩
    ·rw [q4] at HP
     go_wp2_with fail
     refine wp_region_noPanic ?_
     refine wp_region_held_drew (S := (fun W => Below WB.heap.size WB W ∧ W.cell? ⟨w.heap.size, 0, none⟩ = some (.slice A0 (List.length x.1) c0) ∧ W.cell? ⟨w.heap.size, 1, none⟩ = some (.slice (some ⟨b, o, none⟩) (List.length x.2) c1) ∧ W.cell? ⟨b, o + k, none⟩ = some (vS x.2[k]))) b_35 ?_ (fun hHeld => ?_)
     ·exact HH.out _ b_10
     refine tkz4 0 1 2 3 ?_
     try simp only [layz]
     refine tkz2 4 5 ?_
     try simp only [layz]
     refine rz1 6 (fun K hK => ?_)
     go_simp
     go_at_call 159
     refine (C_spec_l5Letter _ _ hsl).mono ?_
     rw [q3]
     rintro e w3 ⟨rfl, hw3⟩
     subst hw3
     refine hK.out _ _ (HH.out _ b_10) (fun hHeld => ?_)
     clear hK K
     try simp only [layz]
     refine tkz4 7 8 9 10 ?_
     try simp only [layz]
     refine tkz4 11 12 13 14 ?_
     try simp only [layz]
     refine tkz 15 ?_
     try simp only [layz]
     refine rz1 16 (fun K hK => ?_)
     go_simp
     go_at_call 160
     refine (C_spec_l10Has _ _ x.1 _ (Ty.rd_below b_4 (Ty.rd_below hw g0)) hsl).mono ?_
     rw [q4]
     rintro e w4 ⟨rfl, hb4⟩
     refine hK.out _ _ (HH.out _ b_4) (fun hHeld => ?_)
     clear hK K
     try simp only [layz]
     refine tkz2 17 18 ?_
     try simp only [layz]
     refine wpAnyH_done b_35 ?_ _
     refine NoPanic.normal ?_
     go_wp2
     exact ⟨⟨k + 1, by omega, by go_num, by rw [HS.out, HT.out, HP.out]; rfl, b_4⟩, by simp [intOf]; omega⟩
  ·have HE : Hid (List.all x.2 (vrP x.1) = true) := by have := HT.out; rwa [List.take_of_length_le b_37] at this
   go_wp2
   go_ret
   exact ⟨ret_bool (by rw [HF.out, HE.out]; rfl), hw⟩
set_option maxHeartbeats 1000000 in
theorem C_spec_ValidRules (w : World) (v : Value) (x : List (Ty.D tRule)) (h : (Ty.sl tRule).rd w [v] x) (s0 : Ty.bulk (.sl tRule) x ≤ 1048576) :
  Calls Tryz.prog 79 #[v] w (RetB w (validRules x)) := by
 obtain ⟨A, c, rfl, hc, hm, hn⟩ := Ty.rd_sl h
 have HF := Lib.hid (show validRules x = (x.all validRule && decide (x.length ≤ 8)) from rfl)
 go_enter Tryz.func79, Tryz.ntmps79
 go_wp2
 go_loopw [3] (fun i wr => ∃ k : Nat, k ≤ x.length ∧ i = .int .i64 k ∧ (x.take k).all validRule = true ∧ Below w.heap.size w wr) (fun i _ => x.length - (intOf i).toNat)
 case atStart => exact ⟨0, by omega, rfl, by first | rfl | simp, Below.refl _ _⟩
 case round =>
  obtain ⟨k, hk, rfl, ht, hb⟩ := hrel
  have HT := Lib.hid ht
  clear ht
  by_cases hlt : k < x.length
  ·have HS := Lib.hid (all_take_succ validRule x hlt)
   have HN := Lib.hid (fun q => all_false_of validRule x hlt q)
   obtain ⟨b, o, ds, rfl, hl, hcell, hrd⟩ := Ty.rd_at (Ty.rd_below hb h) hlt
   have hrd' := hrd
   obtain ⟨Aa0, ca0, Aa1, ca1, rfl, sag0, sag1⟩ := rd_Rule hrd
   have e0 : wr.cell? ⟨b, o + k * 2, none⟩ = some (.slice Aa0 (List.length x[k].1) ca0) := by simpa [Ty.sz] using hcell 0 b_36
   have e1 : wr.cell? ⟨b, o + k * 2 + 1, none⟩ = some (.slice Aa1 (List.length x[k].2) ca1) := by simpa [Ty.sz] using hcell 1 b_36
   clear hcell hl
   go_wp2_with fail
   refine (C_spec_ValidRule _ _ _ hrd' (Ty.bulk_at s0 hlt)).mono ?_
   rintro e w1 ⟨rfl, hb1⟩
   have hw1 : Below w.heap.size w w1 := bel_trans hb hb1
   cases q0 : validRule x[k]
   ·have HQ := Lib.hid q0
    go_wp2
    go_ret
    exact ⟨ret_bool (by rw [HF.out, HN.out HQ.out]; rfl), hw1⟩
   ·have HQ := Lib.hid q0
    go_wp2
    exact ⟨⟨k + 1, by omega, by go_num, by rw [HS.out, HT.out, HQ.out]; rfl, hw1⟩, by simp [intOf]; omega⟩
  ·have HE : Hid (x.all validRule = true) := by have := HT.out; rwa [List.take_of_length_le b_37] at this
   go_wp2
   go_ret
   exact ⟨ret_bool (by rw [HF.out, HE.out]; (rw [Bool.eq_iff_iff]; simp; try omega)), hb⟩
set_option maxHeartbeats 1000000 in
theorem C_impl_ValidRules1 (W : World) (ds : List Value) (x : tRule.D) (h : tRule.rd W ds x) (s0 : Ty.bulk tRule x ≤ 1048576) :
  Calls Tryz.prog 121 #[.agg ds.toArray] W (RetB W (!validRule x)) := by
 have h' := h
 obtain ⟨A0, c0, A1, c1, rfl, g0, g1⟩ := rd_Rule h
 go_enter Tryz.func121, Tryz.ntmps121
 go_wp2_with fail
 refine (C_impl_ValidRule _ _ _ (Ty.rd_below b_10 h') s0).mono ?_
 rintro e w1 ⟨rfl, hb1⟩
 go_wp2
 go_ret
 exact ⟨rfl, b_4⟩
set_option maxHeartbeats 1000000 in
theorem C_impl_ValidRules (w : World) (v : Value) (x : List (Ty.D tRule)) (h : (Ty.sl tRule).rd w [v] x) (s0 : Ty.bulk (.sl tRule) x ≤ 1048576) :
  Calls Tryz.prog 76 #[v] w (RetB w (validRules x)) := by
 obtain ⟨A, c, rfl, hc, hm, hn⟩ := Ty.rd_sl h
 have HF := Lib.hid (show validRules x = (x.all validRule && decide (x.length ≤ 8)) from rfl)
 by_cases hl : x.length ≤ 8
 ·have HL := Lib.hid hl
  go_enter Tryz.func76, Tryz.ntmps76
  go_wp2_with fail
  refine (C_ContainsFunc_Rule _ _ x (fun s => !validRule s) 121 #[] (enters_of Tryz.func121 b_35 rfl) (Ty.rd_below b_10 h) (fun W ds d hd hr _ => by rw [Array.append_empty]; exact C_impl_ValidRules1 W ds d hr (by obtain ⟨i, hi, rfl⟩ := List.getElem_of_mem hd; exact Ty.bulk_at s0 hi))).mono ?_
  rintro e w1 ⟨rfl, hb⟩
  go_wp2
  go_ret
  exact ⟨ret_bool (by rw [HF.out]; have := HL.out; (rw [Bool.eq_iff_iff]; simp; try omega)), b_4⟩
 ·have HL := Lib.hid hl
  go_enter Tryz.func76, Tryz.ntmps76
  go_wp2
  go_ret
  exact ⟨ret_bool (by rw [HF.out]; have := HL.out; (rw [Bool.eq_iff_iff]; simp; try omega)), b_10⟩
theorem ppS_one {s : List UInt8} (h : s = [47]) : ppS s = ([], true) := by unfold ppS; rw [if_pos h]
theorem ppS_no {s : List UInt8} (h : ¬ s = [47]) (h2 : (decide (2 ≤ (spl 47 s).length) && decide ((spl 47 s).head? = some []) && validPat (spl 47 s).tail) = false) : ppS s = ([], false) := by unfold ppS; rw [if_neg h, h2]; rfl
theorem ppS_yes {s : List UInt8} (h : ¬ s = [47]) (h2 : (decide (2 ≤ (spl 47 s).length) && decide ((spl 47 s).head? = some []) && validPat (spl 47 s).tail) = true) : ppS s = ((spl 47 s).tail, true) := by unfold ppS; rw [if_neg h, if_pos h2]
set_option maxHeartbeats 2000000 in
theorem C_spec_ParsePattern (w : World) (s : List UInt8) (hs : s.length ≤ 1000000000) :
  Calls Tryz.prog 165 #[vS s] w (RetAgg2 w (.sl .str) (ppS s).1 (.bool (ppS s).2)) := by
 by_cases h1 : s = [47]
 ·have HY := Lib.hid (ppS_one h1)
  have q1 : (s == [47]) = true := by simp [h1]
  generalize ppS s = F at HY ⊢
  clear h1
  go_enter Tryz.func165, Tryz.ntmps165
  go_wp2
  refine bodyPost_ret (v := .tuple #[.agg #[.slice none 0 0], .bool true]) (by simp [results, Tryz.results165, go_sem]) rfl ?_
  rw [HY.out]
  exact ⟨[.slice none 0 0], [], rfl, rd_ow_nil _ _, FrI.nil _ _, b_10⟩
 have HNO := Lib.hid (fun h => ppS_no h1 h)
 have HYES := Lib.hid (fun h => ppS_yes h1 h)
 have q1 : (s == [47]) = false := by simp [h1]
 have hL := spl_pos 47 s
 have hcall : Calls Tryz.prog 153 #[vS s, .int .u8 47] (w.alloc (.cells #[.slice none 0 0] 126)) (RetRow flatS (w.alloc (.cells #[.slice none 0 0] 126)) 9 (spl 47 s)) := C_spec_l4Split _ s 47 hs
 generalize ppS s = F at HNO HYES ⊢
 generalize spl 47 s = L at HNO HYES hL hcall
 go_enter Tryz.func165, Tryz.ntmps165
 go_wp2_with fail
 refine hcall.mono ?_
 rintro e w1 ⟨v1, rfl, hr1, hb1⟩
 obtain ⟨A1, c1, fp1, rfl, how1, hfr1⟩ := hr1.own hb1.size
 have hcl : L.length ≤ c1 := by obtain ⟨A, c, h2, h3, _⟩ := how1; injection h2 with h2 _; injection h2 with _ _ h7; rw [h7]; exact h3
 obtain ⟨b, o, ds, rfl, hl, hcell, hrd⟩ := Ty.rd_at (Ty.ow_rd how1) hL
 obtain ⟨rfl, hsl⟩ := hrd
 have e0 : w1.cell? ⟨b, o, none⟩ = some (vS L[0]) := by simpa [Ty.sz] using hcell 0 b_36
 clear hcell hl hcall hr1 h1
 have hw1 : Below w.heap.size w w1 := bel_trans b_10 hb1
 have hB1 : Blk w1 w.heap.size 126 #[.slice none 0 0] := (Blk.new w _ _).below hb1 b_31
 obtain ⟨k1, f1, z1⟩ := bk1 hB1
 have hbl : b < w1.heap.size := World.block_lt_of_cell? _ _ e0
 have hs1 := hb1.size
 simp only [World.size_alloc] at hs1 hfr1
 by_cases h2 : 2 ≤ L.length
 ·obtain ⟨fp2, how2, hfr2⟩ := Ty.ow_tail how1 b_37 hfr1
  have ht : L.drop 1 = L.tail := by simp
  rw [ht] at how2
  have hhead : L.head? = some L[0] := by cases L with | nil => simp at hL | cons a l => rfl
  have q2 : ¬ ((L.length : Int) < 2) := by omega
  have q4 : ¬ c1 = 1 := by omega
  have q5 : decide ((L.length : Int) < 2) = false := by simp; omega
  clear ht
  have how2 : (Ty.sl .str).ow w1 [.slice (some ⟨b, o + 1, none⟩) (L.length - 1) (c1 - 1)] L.tail fp2 := how2
  by_cases h3 : L[0] = []
  ·have q3 : L[0].isEmpty = true := by rw [h3]; rfl
   generalize hvv : validPat L.tail = vv at HNO HYES
   have HVV := Lib.hid hvv
   have HC : Hid ((decide (2 ≤ L.length) && decide (L.head? = some []) && vv) = vv) := by unfold Hid; rw [hhead, h3]; simp [h2]
   clear h3 hhead hvv
   go_wp2_with fail
   have hv := C_spec_ValidPattern (w1.alloc (.cells #[.slice (some ⟨b, o + 1, none⟩) (L.length - 1) (c1 - 1)] 126)) _ L.tail (Ty.rd_below b_10 (Ty.ow_rd how2))
   rw [HVV.out] at hv
   refine hv.mono ?_
   rintro e w2 ⟨rfl, hb2⟩
   clear hv
   have hs2 := hb2.size
   simp only [World.size_alloc] at hs2
   have hx2 : Below w1.heap.size w1 w2 := bel_trans (bel_alloc (Below.refl _ _) _) hb2
   have hw2 : Below w.heap.size w w2 := bel_trans hw1 hx2
   have hB2 := hB1.below hx2 z1
   have hP2 : Blk w2 w1.heap.size 126 #[.slice (some ⟨b, o + 1, none⟩) (L.length - 1) (c1 - 1)] := (Blk.new w1 _ _).below hb2 b_31
   obtain ⟨k2, f2, -⟩ := bk1 hB2
   have j2 : w2.cell? ⟨w1.heap.size, 0, none⟩ = some (.slice (some ⟨b, o + 1, none⟩) (L.length - 1) (c1 - 1)) := hP2.cell 0
   have z2 : w.heap.size < w2.heap.size := by omega
   have y2 : w1.heap.size < w2.heap.size := by omega
   clear k1 f1 e0
   cases vv with
   | false =>
    have HN := Lib.hid (HNO.out HC.out)
    go_wp2
    refine bodyPost_ret (v := .tuple #[.agg #[.slice none 0 0], .bool false]) (by simp [results, Tryz.results165, go_sem, k2, f2, z2]) rfl ?_
    rw [HN.out]
    exact ⟨[.slice none 0 0], [], rfl, rd_ow_nil _ _, FrI.nil _ _, b_10⟩
   | true =>
    have HY := Lib.hid (HYES.out HC.out)
    go_wp2
    refine bodyPost_ret (v := .tuple #[.agg #[.slice (some ⟨b, o + 1, none⟩) (L.length - 1) (c1 - 1)], .bool true]) (by simp [results, Tryz.results165, go_sem, k2, f2, z2]) rfl ?_
    rw [HY.out]
    exact ⟨[.slice (some ⟨b, o + 1, none⟩) (L.length - 1) (c1 - 1)], fp2, rfl, Ty.ow_keep (by intro b hb'; have hb'' := (hfr2).2 b hb'; (try simp only [szz] at hb''); repeat (first | (with_reducible rfl) | (rw [Below.heap_setCell _ _ _ _ b_33]) | (rw [Below.heap_alloc _ _ _ b_23]) | (rw [hx2.block _ b_32]))) how2, hfr2.mono b_32 b_32, b_10⟩
  ·have q3 : L[0].isEmpty = false := by cases hq : L[0] with | nil => exact absurd hq h3 | cons a l => rfl
   have HN := Lib.hid (HNO.out (by rw [hhead]; simp [h3]))
   clear h3
   go_wp2
   refine bodyPost_ret (v := .tuple #[.agg #[.slice none 0 0], .bool false]) (by simp [results, Tryz.results165, go_sem, k1, f1, z1]) rfl ?_
   rw [HN.out]
   exact ⟨[.slice none 0 0], [], rfl, rd_ow_nil _ _, FrI.nil _ _, b_10⟩
 ·have HN := Lib.hid (HNO.out (by simp; omega))
  have q2 : ((L.length : Int) < 2) := by omega
  go_wp2
  all_goals refine bodyPost_ret (v := .tuple #[.agg #[.slice none 0 0], .bool false]) (by simp [results, Tryz.results165, go_sem, k1, f1, z1]) rfl ?_
  all_goals rw [HN.out]
  all_goals exact ⟨[.slice none 0 0], [], rfl, rd_ow_nil _ _, FrI.nil _ _, b_10⟩
theorem prS_no3 {s : List UInt8} (h : ¬ ((spl 32 s).length = 3 ∧ (spl 32 s)[1]? = some [60])) : prS s = (([], []), false) := by unfold prS; rw [if_neg h]
theorem prS_3 {s : List UInt8} {x m y : List UInt8} (h : spl 32 s = [x, m, y]) (hm : m = [60]) : prS s = if (ppS x).2 && (ppS y).2 && validRule (ruleOf (ppS x) (ppS y)) then (ruleOf (ppS x) (ppS y), true) else (([], []), false) := by
 unfold prS; rw [h, if_pos ⟨rfl, by rw [hm]; rfl⟩]; rfl
theorem spl_part_len {s x : List UInt8} (h : x ∈ spl 32 s) : x.length ≤ s.length := by
 have : ∀ (l : List UInt8), ∀ a ∈ spl 32 l, a.length ≤ l.length := by
  intro l
  induction l with
  | nil => intro a ha; simp [spl] at ha; subst ha; exact Nat.le_refl _
  | cons b l ih =>
   intro a ha
   unfold spl at ha
   split at ha
   ·rcases List.mem_cons.1 ha with rfl | ha
    ·simp
    ·have := ih a ha; simp; omega
   ·split at ha
    ·rename_i x t hx
     rw [hx] at ih
     rcases List.mem_cons.1 ha with rfl | ha
     ·have := ih x b_38; simp; omega
     ·have := ih a (by simp [ha]); simp; omega
    ·rename_i hx; exact absurd hx (spl_ne _ _)
 exact this s x h
theorem rd_Rule_mk' {w : World} {x : tRule.D} {v0 v1 : Value} (h0 : (Ty.sl .str).rd w [v0] x.1) (h1 : (Ty.sl .str).rd w [v1] x.2) : tRule.rd w [v0, v1] x := ⟨[v0], [v1], rfl, h0, h1⟩
theorem ow_zeroRule (w : World) : tRule.ow w [.slice none 0 0, .slice none 0 0] ([], []) ([] ++ []) := ⟨[.slice none 0 0], [.slice none 0 0], [], [], rfl, rfl, rd_ow_nil _ _, rd_ow_nil _ _⟩
set_option maxHeartbeats 4000000 in
theorem C_spec_ParseRule (w : World) (s : List UInt8) (hs : s.length ≤ 1000000000) :
  Calls Tryz.prog 133 #[vS s] w (RetAgg2 w tRule (prS s).1 (.bool (prS s).2)) := by
 have HNO := Lib.hid (fun h => prS_no3 (s := s) h)
 have HY3 := Lib.hid (fun x m y h hm => prS_3 (s := s) (x := x) (m := m) (y := y) h hm)
 have HPL := Lib.hid (fun x h => spl_part_len (s := s) (x := x) h)
 have hcall : Calls Tryz.prog 153 #[vS s, .int .u8 32] (w.alloc (.cells #[.slice none 0 0, .slice none 0 0] 128)) (RetRow flatS (w.alloc (.cells #[.slice none 0 0, .slice none 0 0] 128)) 9 (spl 32 s)) := C_spec_l4Split _ s 32 hs
 generalize prS s = F at HNO HY3 ⊢
 have hL := spl_pos 32 s
 generalize spl 32 s = L at HNO HY3 HPL hL hcall
 go_enter Tryz.func133, Tryz.ntmps133
 go_wp2_with fail
 refine hcall.mono ?_
 rintro e w1 ⟨v1, rfl, hr1, hb1⟩
 obtain ⟨A1, c1, fp1, rfl, how1, hfr1⟩ := hr1.own hb1.size
 have hw1 : Below w.heap.size w w1 := bel_trans b_10 hb1
 have hB1 : Blk w1 w.heap.size 128 #[.slice none 0 0, .slice none 0 0] := (Blk.new w _ _).below hb1 b_31
 obtain ⟨k10, k11, f10, f11, z1⟩ := bk2 hB1
 have hs1 := hb1.size
 simp only [World.size_alloc] at hs1 hfr1
 clear hcall
 by_cases h3 : L.length = 3
 ·obtain ⟨x, m, y, rfl⟩ : ∃ x m y, L = [x, m, y] := by
   match L, h3 with
   | [x, m, y], _ => exact ⟨x, m, y, rfl⟩
  obtain ⟨b, o, ds, rfl, hl, hcell, hrd⟩ := Ty.rd_at (Ty.ow_rd how1) (k := 0) b_38
  obtain ⟨rfl, hsl⟩ := hrd
  have e0 : w1.cell? ⟨b, o, none⟩ = some (vS x) := by simpa [Ty.sz] using hcell 0 b_36
  clear hl hcell hsl
  obtain ⟨b', o', ds, he, hl, hcell, hrd⟩ := Ty.rd_at (Ty.ow_rd how1) (k := 1) b_38
  injection he with he; injection he with he1 he2; subst he1; subst he2
  obtain ⟨rfl, hsl⟩ := hrd
  have e1 : w1.cell? ⟨b, o + 1, none⟩ = some (vS m) := by simpa [Ty.sz] using hcell 0 b_36
  clear hl hcell hsl
  obtain ⟨b', o', ds, he, hl, hcell, hrd⟩ := Ty.rd_at (Ty.ow_rd how1) (k := 2) b_38
  injection he with he; injection he with he1 he2; subst he1; subst he2
  obtain ⟨rfl, hsl⟩ := hrd
  have e2 : w1.cell? ⟨b, o + 2, none⟩ = some (vS y) := by simpa [Ty.sz] using hcell 0 b_36
  clear hl hcell hsl
  have hbl : b < w1.heap.size := World.block_lt_of_cell? _ _ e0
  by_cases hm : m = [60]
  ·have HF : Hid (F = _) := HY3.out x m y rfl hm
   have hxl : x.length ≤ s.length := HPL.out x b_38
   have hyl : y.length ≤ s.length := HPL.out y b_38
   have hp1 := fun W => C_spec_ParsePattern W x b_37
   have hp2 := fun W => C_spec_ParsePattern W y b_37
   have hq1 := ppS_bulk x
   have hq2 := ppS_bulk y
   generalize ppS x = a at hp1 hq1 HF
   generalize ppS y = b2 at hp2 hq2 HF
   have hbk : Ty.bulk tRule (ruleOf a b2) ≤ 1048576 := by show Ty.bulk (.sl .str) a.1 + Ty.bulk (.sl .str) b2.1 ≤ _; omega
   have qm : (m == [60]) = true := by simp [hm]
   clear hm HNO HY3 HPL h3
   have HFN := Lib.hid (fun (h : (a.2 && b2.2 && validRule (ruleOf a b2)) = false) => show F = (([], []), false) from by have := HF.out; rw [h] at this; exact this)
   have HFY := Lib.hid (fun (h : (a.2 && b2.2 && validRule (ruleOf a b2)) = true) => show F = (ruleOf a b2, true) from by have := HF.out; rw [if_pos h] at this; exact this)
   clear HF hr1 hL
   go_wp2_with fail
   refine (hp1 _).mono ?_
   rintro e w2 ⟨cs2, fp2, rfl, how2, hfr2, hb2⟩
   obtain ⟨A2, c2, rfl⟩ := Ty.ow_slv how2
   have hs2 := hb2.size
   have hw2 : Below w.heap.size w w2 := bel_trans hw1 hb2
   have hB2 := hB1.below hb2 z1
   have g1 : w2.cell? ⟨b, o + 1, none⟩ = some (vS m) := (hb2.cell (p := ⟨b, o + 1, none⟩) hbl).trans e1
   have g2 : w2.cell? ⟨b, o + 2, none⟩ = some (vS y) := (hb2.cell (p := ⟨b, o + 2, none⟩) hbl).trans e2
   have hbl2 : b < w2.heap.size := by omega
   have z2 : w.heap.size < w2.heap.size := by omega
   clear e0 e1 e2 k10 k11 f10 f11
   go_wp2_with fail
   refine (hp2 _).mono ?_
   rintro e w3 ⟨cs3, fp3, rfl, how3, hfr3, hb3⟩
   obtain ⟨A3, c3, rfl⟩ := Ty.ow_slv how3
   have hs3 := hb3.size
   simp only [World.size_alloc] at hs3 hfr3
   have hx3 : Below w2.heap.size w2 w3 := bel_trans (bel_alloc (Below.refl _ _) _) hb3
   have hw3 : Below w.heap.size w w3 := bel_trans hw2 hx3
   have hB3 := hB2.below hx3 z2
   have hP3 : Blk w3 w2.heap.size 126 #[.slice A2 a.1.length c2] := (Blk.new w2 _ _).below hb3 b_31
   obtain ⟨k30, k31, f30, f31, -⟩ := bk2 hB3
   have j3 : w3.cell? ⟨w2.heap.size, 0, none⟩ = some (.slice A2 a.1.length c2) := hP3.cell 0
   have z3 : w.heap.size < w3.heap.size := by omega
   have y3 : w2.heap.size < w3.heap.size := by omega
   have how2' : (Ty.sl .str).ow w3 [.slice A2 a.1.length c2] a.1 fp2 := Ty.ow_keep (by intro b hb'; have hb'' := (hfr2).2 b hb'; (try simp only [szz] at hb''); repeat (first | (with_reducible rfl) | (rw [Below.heap_setCell _ _ _ _ b_33]) | (rw [Below.heap_alloc _ _ _ b_23]) | (rw [hx3.block _ b_32]))) how2
   clear hp1 hp2 g1 g2
   cases qa : a.2 with
   | false =>
    have HN := Lib.hid (HFN.out (by rw [qa]; rfl))
    go_wp2
    refine bodyPost_ret (v := .tuple #[.agg #[.slice none 0 0, .slice none 0 0], .bool false]) (by simp [results, Tryz.results133, go_sem, k30, k31, f30, f31, z3]) rfl ?_
    rw [HN.out]
    exact ⟨_, _, rfl, ow_zeroRule _, FrI.nil _ _, b_10⟩
   | true =>
    cases qb : b2.2 with
    | false =>
     have HN := Lib.hid (HFN.out (by rw [qa, qb]; rfl))
     go_wp2
     refine bodyPost_ret (v := .tuple #[.agg #[.slice none 0 0, .slice none 0 0], .bool false]) (by simp [results, Tryz.results133, go_sem, k30, k31, f30, f31, z3]) rfl ?_
     rw [HN.out]
     exact ⟨_, _, rfl, ow_zeroRule _, FrI.nil _ _, b_10⟩
    | true =>
     go_wp2_with fail
     refine (C_spec_ValidRule _ _ (ruleOf a b2) (rd_Rule_mk' (Ty.rd_below b_10 (Ty.ow_rd how2')) (Ty.rd_below b_10 (Ty.ow_rd how3))) hbk).mono ?_
     rintro e w4 ⟨rfl, hb4⟩
     have hs4 := hb4.size
     simp only [World.size_alloc] at hs4
     have hx4 : Below w3.heap.size w3 w4 := bel_trans (bel_alloc (bel_alloc (Below.refl _ _) _) _) hb4
     have hw4 : Below w.heap.size w w4 := bel_trans hw3 hx4
     have hB4 := hB3.below hx4 z3
     have hR4 : Blk w4 (w3.heap.size + 1) 128 #[.slice A2 a.1.length c2, .slice A3 b2.1.length c3] := by
      have := (Blk.new (w3.alloc (.cells #[.slice A3 b2.1.length c3] 126)) 128 #[.slice A2 a.1.length c2, .slice A3 b2.1.length c3]).below hb4 b_30
      rwa [World.size_alloc] at this
     obtain ⟨k40, k41, f40, f41, -⟩ := bk2 hB4
     obtain ⟨r40, r41, -, -, -⟩ := bk2 hR4
     have z4 : w.heap.size < w4.heap.size := by omega
     have y4 : w3.heap.size + 1 < w4.heap.size := by omega
     clear k30 k31 f30 f31 j3
     cases qv : validRule (ruleOf a b2) with
     | false =>
      have HN := Lib.hid (HFN.out (by rw [qa, qb, qv]; rfl))
      go_wp2
      refine bodyPost_ret (v := .tuple #[.agg #[.slice none 0 0, .slice none 0 0], .bool false]) (by simp [results, Tryz.results133, go_sem, k40, k41, f40, f41, z4]) rfl ?_
      rw [HN.out]
      exact ⟨_, _, rfl, ow_zeroRule _, FrI.nil _ _, b_10⟩
     | true =>
      have HY := Lib.hid (HFY.out (by rw [qa, qb, qv]; rfl))
      clear qv
      go_wp2
      refine bodyPost_ret (v := .tuple #[.agg #[.slice A2 a.1.length c2, .slice A3 b2.1.length c3], .bool true]) (by simp [results, Tryz.results133, go_sem, k40, k41, f40, f41, z4]) rfl ?_
      rw [HY.out]
      exact ⟨[.slice A2 a.1.length c2, .slice A3 b2.1.length c3], fp2 ++ fp3, rfl, ⟨[.slice A2 a.1.length c2], [.slice A3 b2.1.length c3], fp2, fp3, rfl, rfl, Ty.ow_keep (by intro b hb'; have hb'' := (hfr2).2 b hb'; (try simp only [szz] at hb''); repeat (first | (with_reducible rfl) | (rw [Below.heap_setCell _ _ _ _ b_33]) | (rw [Below.heap_alloc _ _ _ b_23]) | (rw [hx4.block _ b_32]) | (rw [hx3.block _ b_32]))) how2', Ty.ow_keep (by intro b hb'; have hb'' := (hfr3).2 b hb'; (try simp only [szz] at hb''); repeat (first | (with_reducible rfl) | (rw [Below.heap_setCell _ _ _ _ b_33]) | (rw [Below.heap_alloc _ _ _ b_23]) | (rw [hx4.block _ b_32]))) how3⟩, FrI.app (hfr2.mono b_32 (Nat.le_refl _)) (hfr3.mono (Nat.le_refl _) b_32) b_32 b_32 b_32, b_10⟩
  ·have HN := Lib.hid (HNO.out (by rintro ⟨_, h⟩; simp at h; exact hm h))
   have qm : (m == [60]) = false := by simp [hm]
   clear hm
   go_wp2
   refine bodyPost_ret (v := .tuple #[.agg #[.slice none 0 0, .slice none 0 0], .bool false]) (by simp [results, Tryz.results133, go_sem, k10, k11, f10, f11, z1]) rfl ?_
   rw [HN.out]
   exact ⟨_, _, rfl, ow_zeroRule _, FrI.nil _ _, b_10⟩
 ·have HN := Lib.hid (HNO.out (fun h => h3 h.1))
  have q3 : ¬ ((L.length : Int) = 3) := by omega
  go_wp2
  refine bodyPost_ret (v := .tuple #[.agg #[.slice none 0 0, .slice none 0 0], .bool false]) (by simp [results, Tryz.results133, go_sem, k10, k11, f10, f11, z1]) rfl ?_
  rw [HN.out]
  exact ⟨_, _, rfl, ow_zeroRule _, FrI.nil _ _, b_10⟩
def letterIs (s : List UInt8) (b : Ty.D tBinding) : Bool := decide (b.1 = s)
def mStep (b : List (Ty.D tBinding)) (s v : List UInt8) : Option (List (Ty.D tBinding)) :=
 if s = [42] then some b else if isVar s = true then (match b.find? (letterIs s) with | none => some (b ++ [(s, v)]) | some kv => if kv.2 = v then some b else none) else if s = v then some b else none
def mGo : List (List UInt8) → List (List UInt8) → List (Ty.D tBinding) → Option (List (Ty.D tBinding))
 | [], ns, b => if ns = [] then some b else none
 | s :: ps, ns, b => if s = [42, 42] then some b else match ns with | [] => none | v :: vs => match mStep b s v with | none => none | some b' => mGo ps vs b'
theorem mGo_cons (s : List UInt8) (ps ns : List (List UInt8)) (b : List (Ty.D tBinding)) : mGo (s :: ps) ns b = if s = [42, 42] then some b else match ns with | [] => none | v :: vs => match mStep b s v with | none => none | some b' => mGo ps vs b' := by cases ns <;> rfl
theorem mGo_nil (ns : List (List UInt8)) (b : List (Ty.D tBinding)) : mGo [] ns b = if ns = [] then some b else none := rfl
def f_Match (p n : List (List UInt8)) (l : List (Ty.D tBinding)) : List (Ty.D tBinding) × Bool :=
 if (validPat p && validName n) = true then (match mGo p n l with | some b => (b, true) | none => (l, false)) else (l, false)
theorem mGo_star {p n : List (List UInt8)} {acc : List (Ty.D tBinding)} {k : Nat} (h : k < p.length) (hs : p[k] = [42, 42]) : mGo (p.drop k) (n.drop k) acc = some acc := by
 rw [List.drop_eq_getElem_cons h, mGo_cons, if_pos hs]
theorem mGo_short {p n : List (List UInt8)} {acc : List (Ty.D tBinding)} {k : Nat} (h : k < p.length) (hs : ¬ p[k] = [42, 42]) (hn : n.length ≤ k) : mGo (p.drop k) (n.drop k) acc = none := by
 rw [List.drop_eq_getElem_cons h, mGo_cons, if_neg hs, List.drop_eq_nil_of_le hn]
theorem mGo_none {p n : List (List UInt8)} {acc : List (Ty.D tBinding)} {k : Nat} (h : k < p.length) (hs : ¬ p[k] = [42, 42]) (hn : k < n.length) (hm : mStep acc p[k] n[k] = none) : mGo (p.drop k) (n.drop k) acc = none := by
 rw [List.drop_eq_getElem_cons h, mGo_cons, if_neg hs, List.drop_eq_getElem_cons hn]; simp only [hm]
theorem mGo_step {p n : List (List UInt8)} {acc b : List (Ty.D tBinding)} {k : Nat} (h : k < p.length) (hs : ¬ p[k] = [42, 42]) (hn : k < n.length) (hm : mStep acc p[k] n[k] = some b) : mGo (p.drop k) (n.drop k) acc = mGo (p.drop (k + 1)) (n.drop (k + 1)) b := by
 rw [List.drop_eq_getElem_cons h, mGo_cons, if_neg hs, List.drop_eq_getElem_cons hn]; simp only [hm]
theorem mGo_end {p n : List (List UInt8)} {acc : List (Ty.D tBinding)} {k : Nat} (h : k = p.length) (hn : n.length = p.length) : mGo (p.drop k) (n.drop k) acc = some acc := by
 rw [List.drop_eq_nil_of_le b_37, List.drop_eq_nil_of_le b_37, mGo_nil, if_pos rfl]
theorem mGo_more {p n : List (List UInt8)} {acc : List (Ty.D tBinding)} {k : Nat} (h : k = p.length) (hn : p.length < n.length) : mGo (p.drop k) (n.drop k) acc = none := by
 rw [List.drop_eq_nil_of_le b_37, mGo_nil, if_neg]
 intro h0
 have := congrArg List.length h0
 rw [List.length_drop] at this; simp at this; omega
theorem mStep_any {b : List (Ty.D tBinding)} {s v : List UInt8} (h : s = [42]) : mStep b s v = some b := by unfold mStep; rw [if_pos h]
theorem mStep_new {b : List (Ty.D tBinding)} {s v : List UInt8} (h : ¬ s = [42]) (hv : isVar s = true) (hf : b.find? (letterIs s) = none) : mStep b s v = some (b ++ [(s, v)]) := by
 unfold mStep; rw [if_neg h, if_pos hv, hf]
theorem mStep_eq {b : List (Ty.D tBinding)} {s v : List UInt8} {kv : Ty.D tBinding} (h : ¬ s = [42]) (hv : isVar s = true) (hf : b.find? (letterIs s) = some kv) (he : kv.2 = v) : mStep b s v = some b := by
 unfold mStep; rw [if_neg h, if_pos hv, hf]; exact if_pos he
theorem mStep_ne {b : List (Ty.D tBinding)} {s v : List UInt8} {kv : Ty.D tBinding} (h : ¬ s = [42]) (hv : isVar s = true) (hf : b.find? (letterIs s) = some kv) (he : ¬ kv.2 = v) : mStep b s v = none := by
 unfold mStep; rw [if_neg h, if_pos hv, hf]; exact if_neg he
theorem mStep_lit {b : List (Ty.D tBinding)} {s v : List UInt8} (h : ¬ s = [42]) (hv : isVar s = false) (he : s = v) : mStep b s v = some b := by
 unfold mStep; rw [if_neg h, if_neg (by rw [hv]; simp), if_pos he]
theorem mStep_bad {b : List (Ty.D tBinding)} {s v : List UInt8} (h : ¬ s = [42]) (hv : isVar s = false) (he : ¬ s = v) : mStep b s v = none := by
 unfold mStep; rw [if_neg h, if_neg (by rw [hv]; simp), if_neg he]
theorem mStep_len {b b' : List (Ty.D tBinding)} {s v : List UInt8} (h : mStep b s v = some b') : b'.length ≤ b.length + 1 := by
 unfold mStep at h
 split at h
 ·injection h with h; subst h; omega
 ·split at h
  ·split at h
   ·injection h with h; subst h; simp
   ·split at h
    ·injection h with h; subst h; omega
    ·cases h
  ·split at h
   ·injection h with h; subst h; omega
   ·cases h
theorem mGo_len : ∀ {p n : List (List UInt8)} {b b' : List (Ty.D tBinding)}, mGo p n b = some b' → b'.length ≤ b.length + p.length
 | [], n, b, b', h => by
  rw [mGo_nil] at h
  split at h
  ·injection h with h; subst h; simp
  ·cases h
 | s :: ps, n, b, b', h => by
  rw [mGo_cons] at h
  split at h
  ·injection h with h; subst h; simp
  ·cases n with
   | nil => cases h
   | cons v vs =>
    simp only at h
    cases hm : mStep b s v with
    | none => rw [hm] at h; cases h
    | some b2 =>
     rw [hm] at h
     have h1 := mStep_len hm
     have h2 := mGo_len h
     rw [List.length_cons]; omega
theorem validPat_len {p : List (List UInt8)} (h : validPat p = true) : p.length ≤ 6 := by
 unfold validPat at h; rw [Bool.and_eq_true] at h; simpa using h.2
theorem match_len (p n : List (List UInt8)) (l : List (Ty.D tBinding)) : (f_Match p n l).1.length ≤ l.length + 6 := by
 unfold f_Match
 split
 ·rename_i h
  rw [Bool.and_eq_true] at h
  have := validPat_len h.1
  split
  ·rename_i b hb
   have := mGo_len hb
   show b.length ≤ _; omega
  ·show l.length ≤ _; omega
 ·show l.length ≤ _; omega
def RetBs (w : World) (r : List (Ty.D tBinding) × Bool) (e : Ending) (w' : World) : Prop := ∃ v, e = .returned (.tuple #[v, .bool r.2]) ∧ (Ty.sl tBinding).rd w' [v] r.1 ∧ Below w.heap.size w w'
theorem RetBs.mk {w w' : World} {r : List (Ty.D tBinding) × Bool} {v : Value} {l : List (Ty.D tBinding)} {b : Bool} (hr : r = (l, b)) (h : (Ty.sl tBinding).rd w' [v] l) (hb : Below w.heap.size w w') : RetBs w r (.returned (.tuple #[v, .bool b])) w' := by
 subst hr; exact ⟨v, rfl, h, hb⟩
theorem f_Match_no {p n : List (List UInt8)} (l : List (Ty.D tBinding)) (h : (validPat p && validName n) = false) : f_Match p n l = (l, false) := by unfold f_Match; rw [h]; rfl
theorem f_Match_go {p n : List (List UInt8)} (l : List (Ty.D tBinding)) (h1 : validPat p = true) (h2 : validName n = true) : f_Match p n l = match mGo p n l with | some b => (b, true) | none => (l, false) := by unfold f_Match; rw [h1, h2]; rfl
theorem info_Binding : (Tryz.prog.info? 174).map (fun i => (i.zero, i.size, i.bytes)) = some (some (.agg #[vS [], vS []]), 2, 32) := by kernel_rfl
theorem ow_Binding {w : World} {x : Ty.D tBinding} (h1 : x.1.length ≤ 9223372036854775807) (h2 : x.2.length ≤ 9223372036854775807) : Ty.ow w tBinding [vS x.1, vS x.2] x [] := Ty.rd_ow_flat rfl (rd_Binding_mk h1 h2)
set_option maxHeartbeats 1000000 in
theorem C_Clone_Binding (w : World) (v : Value) (x : List (Ty.D tBinding)) (h : (Ty.sl tBinding).rd w [v] x) (hx : x.length ≤ 1099511627776) : Calls Tryz.prog 176 #[v] w (RetDRow tBinding w 174 x) := by
 obtain ⟨A, c, rfl, hc, hm, hn⟩ := Ty.rd_sl h
 cases A with
 | none =>
  obtain ⟨rfl, rfl⟩ := Ty.rd_nil h
  show Calls Tryz.prog 176 #[.slice none 0 0] w _
  clear h hx hc hm hn
  have q22 : ∀ (w : World) (a : Option Addr) (n c n' c' : Nat), (binOp .eql 153 (.slice a n c) (.slice none n' c')).run Tryz.prog w = .ok (.bool a.isNone) w := fun w a n c n' c' => Lib.run_eql_slice_nil w _ _ a n c n' c' Tryz.underlying153
  go_enter Tryz.func176, Tryz.ntmps176
  go_wp2
  go_ret
  exact ⟨_, rfl, DRow.nil _ _ _ _, Below.refl _ _⟩
 | some a =>
  have q22 : ∀ (w : World) (a : Option Addr) (n c n' c' : Nat), (binOp .eql 153 (.slice a n c) (.slice none n' c')).run Tryz.prog w = .ok (.bool a.isNone) w := fun w a n c n' c' => Lib.run_eql_slice_nil w _ _ a n c n' c' Tryz.underlying153
  go_enter Tryz.func176, Tryz.ntmps176
  set_option maxRecDepth 100000 in go_wp2_with (at_builtin; go_loud (refine wpList_append_drow rfl _ _ 153 rfl (w.alloc (.cells #[] 174)) w.heap.size 174 info_Binding rfl Tryz.underlying153 _ _ [] x rfl rfl (DRow.lit0 tBinding w 174 (Nat.le_refl _)) (Below.refl _ _) (Src.flat rfl (Ty.rd_below b_10 h) _) ?_ ?_ ?_ ?_))
  case refine_1 => simp only [List.length_nil]; omega
  case refine_2 => simp only [List.length_nil]; unfold maxLen; omega
  case refine_3 => simp only [World.size_alloc]; omega
  case refine_4 =>
   intro v' w' hr' hg'
   have hb' : Below w.heap.size w w' := bel_grown b_10 b_32 hg' (fun g hg => by simp [Value.ownBlock] at hg; omega)
   have HR' := Lib.hid hr'
   clear hr'
   go_wp2
   go_ret
   exact ⟨_, rfl, HR'.out, hb'⟩
set_option maxHeartbeats 1000000 in
theorem C_spec_l5Find (w : World) (v : Value) (l : List (Ty.D tBinding)) (s : List UInt8) (h : (Ty.sl tBinding).rd w [v] l) (hs : s.length ≤ 9223372036854775807) :
  Calls Tryz.prog 184 #[v, vS s] w (RetIP w (ixf (letterIs s) l)) := by
 obtain ⟨A, c, rfl, _, _, n0⟩ := Ty.rd_sl h
 go_enter Tryz.func184, Tryz.ntmps184
 go_wp2
 go_loopw [5] (fun i wr => ∃ k : Nat, k ≤ l.length ∧ i = .int .i64 k ∧ (l.take k).any (letterIs s) = false ∧ wr = w) (fun i _ => l.length - (intOf i).toNat)
 case atStart => exact ⟨0, by omega, rfl, by first | rfl | simp, rfl⟩
 case round =>
  obtain ⟨k, hk, rfl, ht, rfl⟩ := hrel
  have HT := Lib.hid ht
  clear ht
  by_cases hlt : k < l.length
  ·have HS := Lib.hid (any_take_succ (letterIs s) l hlt)
   obtain ⟨b, o, ds, rfl, hl, hcell, hrd⟩ := Ty.rd_at h hlt
   obtain ⟨rfl, q1, q2⟩ := rd_Binding hrd
   have e0 : wr.cell? ⟨b, o + k * 2, none⟩ = some (vS l[k].1) := by simpa [Ty.sz] using hcell 0 b_36
   clear hcell hl
   by_cases hq : l[k].1 = s
   ·have HQ := Lib.hid (ixf_hit (letterIs s) l hlt HT.out (by simp [letterIs, hq]))
    have hq2 : (l[k].1 == s) = true := by simp [hq]
    go_wp2
    go_ret
    exact ⟨ret_int HQ.out.symm, rfl⟩
   ·have HQ : Hid (letterIs s l[k] = false) := by show _ = _; simp [letterIs, hq]
    have hq2 : (l[k].1 == s) = false := by simp [hq]
    go_wp2
    exact ⟨⟨k + 1, by omega, by go_num, by rw [HS.out, HT.out, HQ.out]; rfl, by first | rfl | trivial⟩, by simp [intOf]; omega⟩
  ·have HE : Hid (l.any (letterIs s) = false) := by have := HT.out; rwa [List.take_of_length_le b_37] at this
   go_wp2
   go_ret
   exact ⟨ret_int (ixf_miss (letterIs s) l HE.out).symm, rfl⟩
set_option maxHeartbeats 1000000 in
theorem C_impl_Match1 (W : World) (ds : List Value) (d : Ty.D tBinding) (s : List UInt8) (b : Nat) (h1 : tBinding.rd W ds d) (hcell : W.cell? ⟨b, 0, none⟩ = some (vS s)) :
  Calls Tryz.prog 178 #[.agg ds.toArray, .pointer (some ⟨b, 0, none⟩)] W (RetB W (letterIs s d)) := by
 obtain ⟨rfl, q1, q2⟩ := rd_Binding h1
 have hlt : b < W.heap.size := World.block_lt_of_cell? W _ hcell
 by_cases hq : d.1 = s
 ·have HQ : Hid (letterIs s d = true) := by show _ = _; simp [letterIs, hq]
  have hq2 : (d.1 == s) = true := by simp [hq]
  go_enter Tryz.func178, Tryz.ntmps178
  go_wp2
  go_ret
  exact ⟨ret_bool HQ.out.symm, b_10⟩
 ·have HQ : Hid (letterIs s d = false) := by show _ = _; simp [letterIs, hq]
  have hq2 : (d.1 == s) = false := by simp [hq]
  go_enter Tryz.func178, Tryz.ntmps178
  go_wp2
  go_ret
  exact ⟨ret_bool HQ.out.symm, b_10⟩
end Go.Proofs.YtldgbnlcnlfmeaaGreat
