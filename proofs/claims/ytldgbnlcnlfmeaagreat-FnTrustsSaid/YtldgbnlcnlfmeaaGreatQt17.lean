/- Texts of this claim, merged by a program: Dts. -/
import Derived.Test.YtldgbnlcnlfmeaaGreatQtP
import Derived.Test.YtldgbnlcnlfmeaaGreatQt16
namespace Go.Proofs.YtldgbnlcnlfmeaaGreat
open Go.RowKit
set_option linter.unusedVariables false
set_option linter.unusedSimpArgs false
set_option maxRecDepth 100000 in
set_option maxHeartbeats 4000000 in
theorem C_spec_SignWithKeyR (w : World) (v0 : Value) (l : List (Ty.D tKey)) (cs1 : List Value) (by_ : List (List UInt8)) (cs2 : List Value) (n : List (List UInt8)) (v3 : Value) (b : List UInt8) (till : Int) (h0 : (Ty.sl tKey).rd w [v0] l) (h1 : (Ty.sl .str).rd w cs1 by_) (h2 : (Ty.sl .str).rd w cs2 n) (h3 : (Ty.sl .byte).rd w [v3] b) (s0 : Ty.bulk (.sl tKey) l ≤ 1048576) (s1 : Ty.bulk (.sl .str) by_ ≤ 1048576) (s2 : Ty.bulk (.sl .str) n ≤ 1048576) (s3 : Ty.bulk (.sl .byte) b ≤ 1048576) (i4 : -9223372036854775808 ≤ till ∧ till ≤ 9223372036854775807) :
  Calls Tryz.prog 36 #[v0, .agg cs1.toArray, .agg cs2.toArray, v3, .int .i64 till] w (RetDataR2 5 w (f0_SignWithKey l by_ n b till) (.bool (f1_SignWithKey l by_ n b till))) := by
 obtain ⟨Ak, ck, rfl⟩ := Ty.rd_slv h1
 obtain ⟨An, cn, rfl⟩ := Ty.rd_slv h2
 obtain ⟨Ab, cb, rfl, _, _, _⟩ := Ty.rd_sl h3
 have hsb := secret_bd by_ h0
 have hbk : Ty.bulk tData (swkD by_ n b till) ≤ 4000000 := by rw [swk_bulk]; omega
 have hX : swkX l by_ n b till = f_SignData (f_SecretOf l by_) (swkD by_ n b till) := rfl
 have hF1 : f1_SignWithKey l by_ n b till = (!(decide (f_SecretOf l by_ = 0)) && f_ValidData (swkX l by_ n b till)) := rfl
 have HNO := Lib.hid (fun h => swk_no (l := l) (by_ := by_) (n := n) (b := b) (till := till) h)
 have HYES := Lib.hid (fun h => swk_yes (l := l) (by_ := by_) (n := n) (b := b) (till := till) h)
 generalize f0_SignWithKey l by_ n b till = F0 at HNO HYES ⊢
 generalize f1_SignWithKey l by_ n b till = F1 at hF1 HNO HYES ⊢
 generalize swkX l by_ n b till = X at hX hF1 HYES
 have HX := Lib.hid hX
 have HF1 := Lib.hid hF1
 clear hX hF1
 have hBK : Blk (((w.alloc (.cells #[.slice Ak by_.length ck] 32)).alloc (.cells #[.slice An n.length cn] 32)).alloc (.cells #[.slice none 0 0, .slice none 0 0, .slice none 0 0, .int .i64 0, .int .i64 0] 34)) (w.heap.size) 32 #[.slice Ak by_.length ck] := ((Blk.new w 32 #[.slice Ak by_.length ck]).alloc _).alloc _
 have hBN : Blk (((w.alloc (.cells #[.slice Ak by_.length ck] 32)).alloc (.cells #[.slice An n.length cn] 32)).alloc (.cells #[.slice none 0 0, .slice none 0 0, .slice none 0 0, .int .i64 0, .int .i64 0] 34)) (w.heap.size + 1) 32 #[.slice An n.length cn] := (show Blk ((w.alloc (.cells #[.slice Ak by_.length ck] 32)).alloc (.cells #[.slice An n.length cn] 32)) (w.heap.size + 1) 32 #[.slice An n.length cn] from by have := Blk.new (w.alloc (.cells #[.slice Ak by_.length ck] 32)) 32 #[.slice An n.length cn]; rwa [World.size_alloc] at this).alloc _
 have hBR : Blk (((w.alloc (.cells #[.slice Ak by_.length ck] 32)).alloc (.cells #[.slice An n.length cn] 32)).alloc (.cells #[.slice none 0 0, .slice none 0 0, .slice none 0 0, .int .i64 0, .int .i64 0] 34)) (w.heap.size + 1 + 1) 34 #[.slice none 0 0, .slice none 0 0, .slice none 0 0, .int .i64 0, .int .i64 0] := by have := Blk.new ((w.alloc (.cells #[.slice Ak by_.length ck] 32)).alloc (.cells #[.slice An n.length cn] 32)) 34 #[.slice none 0 0, .slice none 0 0, .slice none 0 0, .int .i64 0, .int .i64 0]; rwa [World.size_alloc, World.size_alloc] at this
 have hvb : Below w.heap.size w (((w.alloc (.cells #[.slice Ak by_.length ck] 32)).alloc (.cells #[.slice An n.length cn] 32)).alloc (.cells #[.slice none 0 0, .slice none 0 0, .slice none 0 0, .int .i64 0, .int .i64 0] 34)) := b_10
 have zb : w.heap.size + 1 + 1 < (((w.alloc (.cells #[.slice Ak by_.length ck] 32)).alloc (.cells #[.slice An n.length cn] 32)).alloc (.cells #[.slice none 0 0, .slice none 0 0, .slice none 0 0, .int .i64 0, .int .i64 0] 34)).heap.size := by simp only [World.size_alloc]; omega
 go_enter Tryz.func36, Tryz.ntmps36
 go_wp2_with fail
 generalize (((w.alloc (.cells #[.slice Ak by_.length ck] 32)).alloc (.cells #[.slice An n.length cn] 32)).alloc (.cells #[.slice none 0 0, .slice none 0 0, .slice none 0 0, .int .i64 0, .int .i64 0] 34)) = WX at hBK hBN hBR hvb zb ⊢
 have HB : Hid (∀ W, Below WX.heap.size WX W → Blk W (w.heap.size) 32 #[.slice Ak by_.length ck] ∧ Blk W (w.heap.size + 1) 32 #[.slice An n.length cn] ∧ Blk W (w.heap.size + 1 + 1) 34 #[.slice none 0 0, .slice none 0 0, .slice none 0 0, .int .i64 0, .int .i64 0]) := fun W hW => ⟨hBK.below hW b_37, hBN.below hW b_37, hBR.below hW zb⟩
 clear hBK hBN hBR
 have HS : Hid (∀ W, Below WX.heap.size WX W → Below WX.heap.size WX W ∧ W.cell? ⟨w.heap.size, 0, none⟩ = some (.slice Ak by_.length ck) ∧ W.cell? ⟨w.heap.size + 1, 0, none⟩ = some (.slice An n.length cn)) := fun W hW => ⟨hW, (HB.out W hW).1.cell 0, (HB.out W hW).2.1.cell 0⟩
 have hv0 : Below WX.heap.size WX WX := Below.refl _ _
 have zb1 : w.heap.size < WX.heap.size := by omega
 have zb2 : w.heap.size + 1 < WX.heap.size := by omega
 refine wp_region_noPanic ?_
 refine wp_region_held_drew (S := (fun W => Below WX.heap.size WX W ∧ W.cell? ⟨w.heap.size, 0, none⟩ = some (.slice Ak by_.length ck) ∧ W.cell? ⟨w.heap.size + 1, 0, none⟩ = some (.slice An n.length cn))) b_35 ?_ (fun hHeld => ?_)
 ·exact HS.out _ b_4
 refine tkz4 0 1 3 4 ?_
 try simp only [layz]
 refine tkz3 5 6 7 ?_
 try simp only [layz]
 refine rz2 2 9 (fun K hK => ?_) (fun K hK => ?_)
 ·go_simp
  go_at_call 48
  refine (C_spec_SecretOf _ _ l _ by_ (Ty.rd_below b_4 (Ty.rd_below hvb h0)) (Ty.rd_below b_4 (Ty.rd_below hvb h1)) s0 s1).mono ?_
  rintro e w1 ⟨rfl, hb1⟩
  have hx1 : Below WX.heap.size WX w1 := b_4
  refine hK.out _ _ (HS.out _ b_4) (fun hHeld => ?_)
  clear hK K
  try simp only [layz]
  refine rz2 8 9 (fun K hK => ?_) (fun K hK => ?_)
  ·go_simp
   go_at_call 96
   refine (C_spec_SignDataR _ _ _ (swkD by_ n b till) (rd_Data_mk (x := swkD by_ n b till) (Ty.rd_below b_4 (Ty.rd_below hvb h2)) (Ty.rd_below b_4 (Ty.rd_below hvb h3)) (Ty.rd_below b_4 (Ty.rd_below hvb h1)) i4 (by show _ ≤ (0 : Int) ∧ (0 : Int) ≤ _; decide)) hsb hbk).mono ?_
   rw [← HX.out]
   rintro e w2 ⟨csx, rfl, hdx, hb2⟩; obtain ⟨fpx, howx, hfrx⟩ := hdx.ow
   obtain ⟨Ad0, cd0, Ad1, cd1, Ad2, cd2, rfl⟩ := ow_Data howx; obtain ⟨LO, hLO, hdx2⟩ : ∃ LO, LO = _ ∧ DataR 5 w2 LO w2.heap.size _ X := ⟨_, rfl, hdx⟩; (try simp only [World.size_alloc, World.size_drew, size_drewN] at hLO); have HDX := Lib.hid hdx2; have HLO := Lib.hid hLO; clear hdx hdx2 hLO
   have hx2 : Below WX.heap.size WX w2 := b_4
   refine hK.out _ _ (HS.out _ b_4) (fun hHeld => ?_)
   clear hK K
   try simp only [layz]
   have hzs1 := hb1.size
   have hzs2 := hb2.size
   try simp only [World.size_alloc, World.size_drew, size_drewN] at hzs1 hzs2
   refine rz1 9 (fun K hK => ?_)
   go_simp
   refine hK.out _ _ (HS.out _ b_4) (fun hHeld => ?_)
   clear hK K
   try simp only [layz]
   refine rz1 10 (fun K hK => ?_)
   go_simp
   refine hK.out _ _ (HS.out _ b_4) (fun hHeld => ?_)
   clear hK K
   try simp only [layz]
   refine wpAnyH_done b_35 ?_ _
   refine NoPanic.normal ?_
   go_wp2_with fail
   refine (C_spec_SecretOf _ _ l _ by_ (Ty.rd_below b_4 (Ty.rd_below hvb h0)) (Ty.rd_below b_4 (Ty.rd_below hvb h1)) s0 s1).mono ?_
   rintro e w4 ⟨rfl, hb4⟩
   have hz4 := hb4.size
   try simp only [szz] at hz4
   have hx4 : Below WX.heap.size WX w4 := b_4
   have hw4 : Below w.heap.size w w4 := bel_trans hvb hx4
   have hX4 : Blk w4 (w2.heap.size) 34 #[.slice Ad0 (List.length X.1) cd0, .slice Ad1 (List.length X.2.1) cd1, .slice Ad2 (List.length X.2.2.1) cd2, .int .i64 X.2.2.2.1, .int .i64 X.2.2.2.2] := by
    refine Blk.below (w := _) (B := _) ?_ hb4 (by simp only [szz]; omega)
    exact Blk.new _ _ _
   obtain ⟨hK4, hN4, hR4⟩ := HB.out _ (hx4)
   obtain ⟨kR_4_0, kR_4_1, kR_4_2, kR_4_3, kR_4_4, fR_4_0, fR_4_1, fR_4_2, fR_4_3, fR_4_4, zR_4⟩ := bk5 hR4
   obtain ⟨kX_4_0, kX_4_1, kX_4_2, kX_4_3, kX_4_4, fX_4_0, fX_4_1, fX_4_2, fX_4_3, fX_4_4, zX_4⟩ := bk5 hX4
   by_cases hz : f_SecretOf l by_ = 0
   ·have q0 : (f_SecretOf l by_ == 0) = true := by simp [hz]
    have HFF : Hid (F1 = false) := by show _ = _; rw [HF1.out, hz]; rfl
    clear hz
    go_wp2
    refine bodyPost_ret (v := .tuple #[.agg #[.slice none 0 0, .slice none 0 0, .slice none 0 0, .int .i64 0, .int .i64 0], .bool false]) b_15 rfl ?_
    rw [HNO.out HFF.out, HFF.out]
    refine viaP (p := Below w.heap.size w _) ?_ (fun hb => ⟨_, rfl, (DataR.zero _ _).mono hb.size (Nat.le_refl _) (Nat.le_refl _), hb⟩)
    ((repeat' (first | (with_reducible exact Below.refl _ _) | (with_reducible assumption) | (with_reducible refine bel_set ?_ b_33 _) | (with_reducible refine bel_alloc ?_ _) | (with_reducible refine bel_drewN ?_ _) | (with_reducible refine bel_drew ?_) | (with_reducible refine bel_trans ?_ (by assumption)))); done)
   have q0 : (f_SecretOf l by_ == 0) = false := by simp [hz]
   have HZ : Hid (decide (f_SecretOf l by_ = 0) = false) := by show _ = _; simp [hz]
   clear hz
   go_wp2_with fail
   refine (C_spec_ValidDataG _ _ X (Ty.rd_below hb4 (Ty.ow_rd (Ty.ow_keep b_8 howx)))).mono ?_
   rintro e w5 ⟨rfl, hb5⟩
   have hz5 := hb5.size
   have hx5 : Below WX.heap.size WX w5 := bel_trans hx4 hb5
   have hw5 : Below w.heap.size w w5 := bel_trans hvb hx5
   clear kR_4_0 fR_4_0 kR_4_1 fR_4_1 kR_4_2 fR_4_2 kR_4_3 fR_4_3 kR_4_4 fR_4_4 kX_4_0 fX_4_0 kX_4_1 fX_4_1 kX_4_2 fX_4_2 kX_4_3 fX_4_3 kX_4_4 fX_4_4
   obtain ⟨hK5, hN5, hR5⟩ := HB.out _ (hx5)
   have hX5 : Blk w5 (w2.heap.size) 34 #[.slice Ad0 (List.length X.1) cd0, .slice Ad1 (List.length X.2.1) cd1, .slice Ad2 (List.length X.2.2.1) cd2, .int .i64 X.2.2.2.1, .int .i64 X.2.2.2.2] := hX4.below hb5 (hX4.lt)
   obtain ⟨kR_5_0, kR_5_1, kR_5_2, kR_5_3, kR_5_4, fR_5_0, fR_5_1, fR_5_2, fR_5_3, fR_5_4, zR_5⟩ := bk5 hR5
   obtain ⟨kX_5_0, kX_5_1, kX_5_2, kX_5_3, kX_5_4, fX_5_0, fX_5_1, fX_5_2, fX_5_3, fX_5_4, zX_5⟩ := bk5 hX5
   cases q1 : f_ValidData X
   ·have HFF : Hid (F1 = false) := by show _ = _; rw [HF1.out, HZ.out, q1]; rfl
    clear q1
    go_wp2
    refine bodyPost_ret (v := .tuple #[.agg #[.slice none 0 0, .slice none 0 0, .slice none 0 0, .int .i64 0, .int .i64 0], .bool false]) b_16 rfl ?_
    rw [HNO.out HFF.out, HFF.out]
    refine viaP (p := Below w.heap.size w _) ?_ (fun hb => ⟨_, rfl, (DataR.zero _ _).mono hb.size (Nat.le_refl _) (Nat.le_refl _), hb⟩)
    ((repeat' (first | (with_reducible exact Below.refl _ _) | (with_reducible assumption) | (with_reducible refine bel_set ?_ b_33 _) | (with_reducible refine bel_alloc ?_ _) | (with_reducible refine bel_drewN ?_ _) | (with_reducible refine bel_drew ?_) | (with_reducible refine bel_trans ?_ (by assumption)))); done)
   ·have HFF : Hid (F1 = true) := by show _ = _; rw [HF1.out, HZ.out, q1]; rfl
    clear q1
    go_wp2
    refine bodyPost_ret (v := .tuple #[.agg #[.slice Ad0 (List.length X.1) cd0, .slice Ad1 (List.length X.2.1) cd1, .slice Ad2 (List.length X.2.2.1) cd2, .int .i64 X.2.2.2.1, .int .i64 X.2.2.2.2], .bool true]) b_16 rfl ?_
    rw [HYES.out HFF.out, HFF.out]
    refine viaP (p := Below w.heap.size w _) ?_ (fun hb => ⟨_, rfl, DataR.mono (lo := LO) (hi := w2.heap.size) ?_ ?_ ?_ (Nat.le_refl _), hb⟩)
    ·((repeat' (first | (with_reducible exact Below.refl _ _) | (with_reducible assumption) | (with_reducible refine bel_set ?_ b_33 _) | (with_reducible refine bel_alloc ?_ _) | (with_reducible refine bel_drewN ?_ _) | (with_reducible refine bel_drew ?_) | (with_reducible refine bel_trans ?_ (by assumption)))); done)
    ·have hLO2 := HLO.out
     clear HB HS HLO HNO HYES HF1
     exact b_0
    ·have hLO2 := HLO.out
     omega
    ·(try simp only [szz]); omega
  ·go_simp
   refine hK.out _ _ (HS.out _ b_4) (fun hHeld => ?_)
   clear hK K
   try simp only [layz]
   refine rz1 8 (fun K hK => ?_)
   go_simp
   go_at_call 96
   refine (C_spec_SignDataR _ _ _ (swkD by_ n b till) (rd_Data_mk (x := swkD by_ n b till) (Ty.rd_below b_4 (Ty.rd_below hvb h2)) (Ty.rd_below b_4 (Ty.rd_below hvb h3)) (Ty.rd_below b_4 (Ty.rd_below hvb h1)) i4 (by show _ ≤ (0 : Int) ∧ (0 : Int) ≤ _; decide)) hsb hbk).mono ?_
   rw [← HX.out]
   rintro e w2 ⟨csx, rfl, hdx, hb2⟩; obtain ⟨fpx, howx, hfrx⟩ := hdx.ow
   obtain ⟨Ad0, cd0, Ad1, cd1, Ad2, cd2, rfl⟩ := ow_Data howx; obtain ⟨LO, hLO, hdx2⟩ : ∃ LO, LO = _ ∧ DataR 5 w2 LO w2.heap.size _ X := ⟨_, rfl, hdx⟩; (try simp only [World.size_alloc, World.size_drew, size_drewN] at hLO); have HDX := Lib.hid hdx2; have HLO := Lib.hid hLO; clear hdx hdx2 hLO
   have hx2 : Below WX.heap.size WX w2 := b_4
   refine hK.out _ _ (HS.out _ b_4) (fun hHeld => ?_)
   clear hK K
   try simp only [layz]
   have hzs1 := hb1.size
   have hzs2 := hb2.size
   try simp only [World.size_alloc, World.size_drew, size_drewN] at hzs1 hzs2
   have hG2 : Blk w2 (w1.heap.size) 34 #[.slice none 0 0, .slice none 0 0, .slice none 0 0, .int .i64 0, .int .i64 0] := by
    first
     | exact (Blk.new (w1) _ _).below hb2 b_22
     | exact (Blk.drew (Blk.new (w1) _ _)).below hb2 b_22
     | exact ((Blk.drew (Blk.new (w1) _ _)).below hb1 b_22).below hb2 b_21
     | exact ((Blk.new (w1) _ _).below hb1 b_22).below hb2 b_21
   obtain ⟨kG_2_0, kG_2_1, kG_2_2, kG_2_3, kG_2_4, fG_2_0, fG_2_1, fG_2_2, fG_2_3, fG_2_4, zG_2⟩ := bk5 hG2
   refine rz1 10 (fun K hK => ?_)
   go_simp
   refine hK.out _ _ (HS.out _ b_4) (fun hHeld => ?_)
   clear hK K
   try simp only [layz]
   clear kG_2_0 fG_2_0 kG_2_1 fG_2_1 kG_2_2 fG_2_2 kG_2_3 fG_2_3 kG_2_4 fG_2_4
   refine wpAnyH_done b_35 ?_ _
   refine NoPanic.normal ?_
   go_wp2_with fail
   refine (C_spec_SecretOf _ _ l _ by_ (Ty.rd_below b_4 (Ty.rd_below hvb h0)) (Ty.rd_below b_4 (Ty.rd_below hvb h1)) s0 s1).mono ?_
   rintro e w4 ⟨rfl, hb4⟩
   have hz4 := hb4.size
   try simp only [szz] at hz4
   have hx4 : Below WX.heap.size WX w4 := b_4
   have hw4 : Below w.heap.size w w4 := bel_trans hvb hx4
   have hX4 : Blk w4 (w1.heap.size) 34 #[.slice Ad0 (List.length X.1) cd0, .slice Ad1 (List.length X.2.1) cd1, .slice Ad2 (List.length X.2.2.1) cd2, .int .i64 X.2.2.2.1, .int .i64 X.2.2.2.2] := by
    refine Blk.below (w := _) (B := _) ?_ hb4 (by simp only [szz]; omega)
    exact ((((hG2.set_ 0 _).set_ 1 _).set_ 2 _).set_ 3 _).set_ 4 _
   obtain ⟨hK4, hN4, hR4⟩ := HB.out _ (hx4)
   obtain ⟨kR_4_0, kR_4_1, kR_4_2, kR_4_3, kR_4_4, fR_4_0, fR_4_1, fR_4_2, fR_4_3, fR_4_4, zR_4⟩ := bk5 hR4
   obtain ⟨kX_4_0, kX_4_1, kX_4_2, kX_4_3, kX_4_4, fX_4_0, fX_4_1, fX_4_2, fX_4_3, fX_4_4, zX_4⟩ := bk5 hX4
   by_cases hz : f_SecretOf l by_ = 0
   ·have q0 : (f_SecretOf l by_ == 0) = true := by simp [hz]
    have HFF : Hid (F1 = false) := by show _ = _; rw [HF1.out, hz]; rfl
    clear hz
    go_wp2
    refine bodyPost_ret (v := .tuple #[.agg #[.slice none 0 0, .slice none 0 0, .slice none 0 0, .int .i64 0, .int .i64 0], .bool false]) b_15 rfl ?_
    rw [HNO.out HFF.out, HFF.out]
    refine viaP (p := Below w.heap.size w _) ?_ (fun hb => ⟨_, rfl, (DataR.zero _ _).mono hb.size (Nat.le_refl _) (Nat.le_refl _), hb⟩)
    ((repeat' (first | (with_reducible exact Below.refl _ _) | (with_reducible assumption) | (with_reducible refine bel_set ?_ b_33 _) | (with_reducible refine bel_alloc ?_ _) | (with_reducible refine bel_drewN ?_ _) | (with_reducible refine bel_drew ?_) | (with_reducible refine bel_trans ?_ (by assumption)))); done)
   have q0 : (f_SecretOf l by_ == 0) = false := by simp [hz]
   have HZ : Hid (decide (f_SecretOf l by_ = 0) = false) := by show _ = _; simp [hz]
   clear hz
   go_wp2_with fail
   refine (C_spec_ValidDataG _ _ X (Ty.rd_below hb4 (Ty.ow_rd (Ty.ow_keep b_8 howx)))).mono ?_
   rintro e w5 ⟨rfl, hb5⟩
   have hz5 := hb5.size
   have hx5 : Below WX.heap.size WX w5 := bel_trans hx4 hb5
   have hw5 : Below w.heap.size w w5 := bel_trans hvb hx5
   clear kR_4_0 fR_4_0 kR_4_1 fR_4_1 kR_4_2 fR_4_2 kR_4_3 fR_4_3 kR_4_4 fR_4_4 kX_4_0 fX_4_0 kX_4_1 fX_4_1 kX_4_2 fX_4_2 kX_4_3 fX_4_3 kX_4_4 fX_4_4
   obtain ⟨hK5, hN5, hR5⟩ := HB.out _ (hx5)
   have hX5 : Blk w5 (w1.heap.size) 34 #[.slice Ad0 (List.length X.1) cd0, .slice Ad1 (List.length X.2.1) cd1, .slice Ad2 (List.length X.2.2.1) cd2, .int .i64 X.2.2.2.1, .int .i64 X.2.2.2.2] := hX4.below hb5 (hX4.lt)
   obtain ⟨kR_5_0, kR_5_1, kR_5_2, kR_5_3, kR_5_4, fR_5_0, fR_5_1, fR_5_2, fR_5_3, fR_5_4, zR_5⟩ := bk5 hR5
   obtain ⟨kX_5_0, kX_5_1, kX_5_2, kX_5_3, kX_5_4, fX_5_0, fX_5_1, fX_5_2, fX_5_3, fX_5_4, zX_5⟩ := bk5 hX5
   cases q1 : f_ValidData X
   ·have HFF : Hid (F1 = false) := by show _ = _; rw [HF1.out, HZ.out, q1]; rfl
    clear q1
    go_wp2
    refine bodyPost_ret (v := .tuple #[.agg #[.slice none 0 0, .slice none 0 0, .slice none 0 0, .int .i64 0, .int .i64 0], .bool false]) b_16 rfl ?_
    rw [HNO.out HFF.out, HFF.out]
    refine viaP (p := Below w.heap.size w _) ?_ (fun hb => ⟨_, rfl, (DataR.zero _ _).mono hb.size (Nat.le_refl _) (Nat.le_refl _), hb⟩)
    ((repeat' (first | (with_reducible exact Below.refl _ _) | (with_reducible assumption) | (with_reducible refine bel_set ?_ b_33 _) | (with_reducible refine bel_alloc ?_ _) | (with_reducible refine bel_drewN ?_ _) | (with_reducible refine bel_drew ?_) | (with_reducible refine bel_trans ?_ (by assumption)))); done)
   ·have HFF : Hid (F1 = true) := by show _ = _; rw [HF1.out, HZ.out, q1]; rfl
    clear q1
    go_wp2
    refine bodyPost_ret (v := .tuple #[.agg #[.slice Ad0 (List.length X.1) cd0, .slice Ad1 (List.length X.2.1) cd1, .slice Ad2 (List.length X.2.2.1) cd2, .int .i64 X.2.2.2.1, .int .i64 X.2.2.2.2], .bool true]) b_16 rfl ?_
    rw [HYES.out HFF.out, HFF.out]
    refine viaP (p := Below w.heap.size w _) ?_ (fun hb => ⟨_, rfl, DataR.mono (lo := LO) (hi := w2.heap.size) ?_ ?_ ?_ (Nat.le_refl _), hb⟩)
    ·((repeat' (first | (with_reducible exact Below.refl _ _) | (with_reducible assumption) | (with_reducible refine bel_set ?_ b_33 _) | (with_reducible refine bel_alloc ?_ _) | (with_reducible refine bel_drewN ?_ _) | (with_reducible refine bel_drew ?_) | (with_reducible refine bel_trans ?_ (by assumption)))); done)
    ·have hLO2 := HLO.out
     clear HB HS HLO HNO HYES HF1
     exact b_0
    ·have hLO2 := HLO.out
     omega
    ·(try simp only [szz]); omega
 ·go_simp
  refine hK.out _ _ (HS.out _ b_4) (fun hHeld => ?_)
  clear hK K
  try simp only [layz]
  refine rz1 2 (fun K hK => ?_)
  go_simp
  go_at_call 48
  refine (C_spec_SecretOf _ _ l _ by_ (Ty.rd_below b_4 (Ty.rd_below hvb h0)) (Ty.rd_below b_4 (Ty.rd_below hvb h1)) s0 s1).mono ?_
  rintro e w1 ⟨rfl, hb1⟩
  have hx1 : Below WX.heap.size WX w1 := b_4
  refine hK.out _ _ (HS.out _ b_4) (fun hHeld => ?_)
  clear hK K
  try simp only [layz]
  refine rz1 8 (fun K hK => ?_)
  go_simp
  go_at_call 96
  refine (C_spec_SignDataR _ _ _ (swkD by_ n b till) (rd_Data_mk (x := swkD by_ n b till) (Ty.rd_below b_4 (Ty.rd_below hvb h2)) (Ty.rd_below b_4 (Ty.rd_below hvb h3)) (Ty.rd_below b_4 (Ty.rd_below hvb h1)) i4 (by show _ ≤ (0 : Int) ∧ (0 : Int) ≤ _; decide)) hsb hbk).mono ?_
  rw [← HX.out]
  rintro e w2 ⟨csx, rfl, hdx, hb2⟩; obtain ⟨fpx, howx, hfrx⟩ := hdx.ow
  obtain ⟨Ad0, cd0, Ad1, cd1, Ad2, cd2, rfl⟩ := ow_Data howx; obtain ⟨LO, hLO, hdx2⟩ : ∃ LO, LO = _ ∧ DataR 5 w2 LO w2.heap.size _ X := ⟨_, rfl, hdx⟩; (try simp only [World.size_alloc, World.size_drew, size_drewN] at hLO); have HDX := Lib.hid hdx2; have HLO := Lib.hid hLO; clear hdx hdx2 hLO
  have hx2 : Below WX.heap.size WX w2 := b_4
  refine hK.out _ _ (HS.out _ b_4) (fun hHeld => ?_)
  clear hK K
  try simp only [layz]
  have hzs1 := hb1.size
  have hzs2 := hb2.size
  try simp only [World.size_alloc, World.size_drew, size_drewN] at hzs1 hzs2
  have hG2 : Blk w2 (WX.heap.size) 34 #[.slice none 0 0, .slice none 0 0, .slice none 0 0, .int .i64 0, .int .i64 0] := by
   first
    | exact (Blk.new (WX) _ _).below hb2 b_22
    | exact (Blk.drew (Blk.new (WX) _ _)).below hb2 b_22
    | exact ((Blk.drew (Blk.new (WX) _ _)).below hb1 b_22).below hb2 b_21
    | exact ((Blk.new (WX) _ _).below hb1 b_22).below hb2 b_21
  obtain ⟨kG_2_0, kG_2_1, kG_2_2, kG_2_3, kG_2_4, fG_2_0, fG_2_1, fG_2_2, fG_2_3, fG_2_4, zG_2⟩ := bk5 hG2
  refine rz1 10 (fun K hK => ?_)
  go_simp
  refine hK.out _ _ (HS.out _ b_4) (fun hHeld => ?_)
  clear hK K
  try simp only [layz]
  clear kG_2_0 fG_2_0 kG_2_1 fG_2_1 kG_2_2 fG_2_2 kG_2_3 fG_2_3 kG_2_4 fG_2_4
  refine wpAnyH_done b_35 ?_ _
  refine NoPanic.normal ?_
  go_wp2_with fail
  refine (C_spec_SecretOf _ _ l _ by_ (Ty.rd_below b_4 (Ty.rd_below hvb h0)) (Ty.rd_below b_4 (Ty.rd_below hvb h1)) s0 s1).mono ?_
  rintro e w4 ⟨rfl, hb4⟩
  have hz4 := hb4.size
  try simp only [szz] at hz4
  have hx4 : Below WX.heap.size WX w4 := b_4
  have hw4 : Below w.heap.size w w4 := bel_trans hvb hx4
  have hX4 : Blk w4 (WX.heap.size) 34 #[.slice Ad0 (List.length X.1) cd0, .slice Ad1 (List.length X.2.1) cd1, .slice Ad2 (List.length X.2.2.1) cd2, .int .i64 X.2.2.2.1, .int .i64 X.2.2.2.2] := by
   refine Blk.below (w := _) (B := _) ?_ hb4 (by simp only [szz]; omega)
   exact ((((hG2.set_ 0 _).set_ 1 _).set_ 2 _).set_ 3 _).set_ 4 _
  obtain ⟨hK4, hN4, hR4⟩ := HB.out _ (hx4)
  obtain ⟨kR_4_0, kR_4_1, kR_4_2, kR_4_3, kR_4_4, fR_4_0, fR_4_1, fR_4_2, fR_4_3, fR_4_4, zR_4⟩ := bk5 hR4
  obtain ⟨kX_4_0, kX_4_1, kX_4_2, kX_4_3, kX_4_4, fX_4_0, fX_4_1, fX_4_2, fX_4_3, fX_4_4, zX_4⟩ := bk5 hX4
  by_cases hz : f_SecretOf l by_ = 0
  ·have q0 : (f_SecretOf l by_ == 0) = true := by simp [hz]
   have HFF : Hid (F1 = false) := by show _ = _; rw [HF1.out, hz]; rfl
   clear hz
   go_wp2
   refine bodyPost_ret (v := .tuple #[.agg #[.slice none 0 0, .slice none 0 0, .slice none 0 0, .int .i64 0, .int .i64 0], .bool false]) b_15 rfl ?_
   rw [HNO.out HFF.out, HFF.out]
   refine viaP (p := Below w.heap.size w _) ?_ (fun hb => ⟨_, rfl, (DataR.zero _ _).mono hb.size (Nat.le_refl _) (Nat.le_refl _), hb⟩)
   ((repeat' (first | (with_reducible exact Below.refl _ _) | (with_reducible assumption) | (with_reducible refine bel_set ?_ b_33 _) | (with_reducible refine bel_alloc ?_ _) | (with_reducible refine bel_drewN ?_ _) | (with_reducible refine bel_drew ?_) | (with_reducible refine bel_trans ?_ (by assumption)))); done)
  have q0 : (f_SecretOf l by_ == 0) = false := by simp [hz]
  have HZ : Hid (decide (f_SecretOf l by_ = 0) = false) := by show _ = _; simp [hz]
  clear hz
  go_wp2_with fail
  refine (C_spec_ValidDataG _ _ X (Ty.rd_below hb4 (Ty.ow_rd (Ty.ow_keep b_8 howx)))).mono ?_
  rintro e w5 ⟨rfl, hb5⟩
  have hz5 := hb5.size
  have hx5 : Below WX.heap.size WX w5 := bel_trans hx4 hb5
  have hw5 : Below w.heap.size w w5 := bel_trans hvb hx5
  clear kR_4_0 fR_4_0 kR_4_1 fR_4_1 kR_4_2 fR_4_2 kR_4_3 fR_4_3 kR_4_4 fR_4_4 kX_4_0 fX_4_0 kX_4_1 fX_4_1 kX_4_2 fX_4_2 kX_4_3 fX_4_3 kX_4_4 fX_4_4
  obtain ⟨hK5, hN5, hR5⟩ := HB.out _ (hx5)
  have hX5 : Blk w5 (WX.heap.size) 34 #[.slice Ad0 (List.length X.1) cd0, .slice Ad1 (List.length X.2.1) cd1, .slice Ad2 (List.length X.2.2.1) cd2, .int .i64 X.2.2.2.1, .int .i64 X.2.2.2.2] := hX4.below hb5 (hX4.lt)
  obtain ⟨kR_5_0, kR_5_1, kR_5_2, kR_5_3, kR_5_4, fR_5_0, fR_5_1, fR_5_2, fR_5_3, fR_5_4, zR_5⟩ := bk5 hR5
  obtain ⟨kX_5_0, kX_5_1, kX_5_2, kX_5_3, kX_5_4, fX_5_0, fX_5_1, fX_5_2, fX_5_3, fX_5_4, zX_5⟩ := bk5 hX5
  cases q1 : f_ValidData X
  ·have HFF : Hid (F1 = false) := by show _ = _; rw [HF1.out, HZ.out, q1]; rfl
   clear q1
   go_wp2
   refine bodyPost_ret (v := .tuple #[.agg #[.slice none 0 0, .slice none 0 0, .slice none 0 0, .int .i64 0, .int .i64 0], .bool false]) b_16 rfl ?_
   rw [HNO.out HFF.out, HFF.out]
   refine viaP (p := Below w.heap.size w _) ?_ (fun hb => ⟨_, rfl, (DataR.zero _ _).mono hb.size (Nat.le_refl _) (Nat.le_refl _), hb⟩)
   ((repeat' (first | (with_reducible exact Below.refl _ _) | (with_reducible assumption) | (with_reducible refine bel_set ?_ b_33 _) | (with_reducible refine bel_alloc ?_ _) | (with_reducible refine bel_drewN ?_ _) | (with_reducible refine bel_drew ?_) | (with_reducible refine bel_trans ?_ (by assumption)))); done)
  ·have HFF : Hid (F1 = true) := by show _ = _; rw [HF1.out, HZ.out, q1]; rfl
   clear q1
   go_wp2
   refine bodyPost_ret (v := .tuple #[.agg #[.slice Ad0 (List.length X.1) cd0, .slice Ad1 (List.length X.2.1) cd1, .slice Ad2 (List.length X.2.2.1) cd2, .int .i64 X.2.2.2.1, .int .i64 X.2.2.2.2], .bool true]) b_16 rfl ?_
   rw [HYES.out HFF.out, HFF.out]
   refine viaP (p := Below w.heap.size w _) ?_ (fun hb => ⟨_, rfl, DataR.mono (lo := LO) (hi := w2.heap.size) ?_ ?_ ?_ (Nat.le_refl _), hb⟩)
   ·((repeat' (first | (with_reducible exact Below.refl _ _) | (with_reducible assumption) | (with_reducible refine bel_set ?_ b_33 _) | (with_reducible refine bel_alloc ?_ _) | (with_reducible refine bel_drewN ?_ _) | (with_reducible refine bel_drew ?_) | (with_reducible refine bel_trans ?_ (by assumption)))); done)
   ·have hLO2 := HLO.out
    clear HB HS HLO HNO HYES HF1
    exact b_0
   ·have hLO2 := HLO.out
    omega
   ·(try simp only [szz]); omega
end Go.Proofs.YtldgbnlcnlfmeaaGreat
