/- Texts of this claim, merged by a program: Dts Are. -/
import Derived.Test.YtldgbnlcnlfmeaaGreatMf16
import Derived.Test.YtldgbnlcnlfmeaaGreatMf2
/- Data whose content may be appended to: SignWithKey. Printed by gen58.py. -/
namespace Go.Proofs.YtldgbnlcnlfmeaaGreat
open Go.RowKit
set_option linter.unusedVariables false
set_option linter.unusedSimpArgs false

set_option maxRecDepth 100000 in
set_option maxHeartbeats 4000000 in
theorem C_spec_SignWithKeyR (w : World) (v0 : Value) (l : List (Ty.D tKey)) (cs1 : List Value) (by_ : List (List UInt8)) (cs2 : List Value) (n : List (List UInt8)) (v3 : Value) (b : List UInt8) (till : Int) (h0 : (Ty.sl tKey).rd w [v0] l) (h1 : (Ty.sl .str).rd w cs1 by_) (h2 : (Ty.sl .str).rd w cs2 n) (h3 : (Ty.sl .byte).rd w [v3] b) (s0 : Ty.bulk (.sl tKey) l ≤ 1048576) (s1 : Ty.bulk (.sl .str) by_ ≤ 1048576) (s2 : Ty.bulk (.sl .str) n ≤ 1048576) (s3 : Ty.bulk (.sl .byte) b ≤ 1048576) (i4 : -9223372036854775808 ≤ till ∧ till ≤ 9223372036854775807) :
    Calls Tryz.prog 36 #[v0, .agg cs1.toArray, .agg cs2.toArray, v3, .int .i64 till] w (RetDataR2 5 w (f0_SignWithKey l by_ n b till) (.bool (f1_SignWithKey l by_ n b till))) := by
  obtain ⟨Ak, ck, rfl⟩ := Ty.rd_slv h1
  obtain ⟨An, cn, rfl⟩ := Ty.rd_slv h2
  obtain ⟨Ab, cb, rfl, _, _, _⟩ := Ty.rd_sl h3
  have hsb := secret_bd by_ h0
  have hbk : Ty.bulk tData (swkD by_ n b till) ≤ 4000000 := by rw [swk_bulk]; omega
  have hX : swkX l by_ n b till = f_SignData (f_SecretOf l by_) (swkD by_ n b till) := rfl
  have hF1 : f1_SignWithKey l by_ n b till = (!(decide (f_SecretOf l by_ = 0)) && f_ValidData (swkX l by_ n b till)) := rfl
  have HNO := Lib.hid (fun h => swk_no (l := l) (by_ := by_) (n := n) (b := b) (till := till) h)
  have HYES := Lib.hid (fun h => swk_yes (l := l) (by_ := by_) (n := n) (b := b) (till := till) h)
  generalize f0_SignWithKey l by_ n b till = F0 at HNO HYES ⊢
  generalize f1_SignWithKey l by_ n b till = F1 at hF1 HNO HYES ⊢
  generalize swkX l by_ n b till = X at hX hF1 HYES
  have HX := Lib.hid hX
  have HF1 := Lib.hid hF1
  clear hX hF1
  have hBK : Blk (((w.alloc (.cells #[.slice Ak by_.length ck] 32)).alloc (.cells #[.slice An n.length cn] 32)).alloc (.cells #[.slice none 0 0, .slice none 0 0, .slice none 0 0, .int .i64 0, .int .i64 0] 34)) (w.heap.size) 32 #[.slice Ak by_.length ck] := ((Blk.new w 32 #[.slice Ak by_.length ck]).alloc _).alloc _
  have hBN : Blk (((w.alloc (.cells #[.slice Ak by_.length ck] 32)).alloc (.cells #[.slice An n.length cn] 32)).alloc (.cells #[.slice none 0 0, .slice none 0 0, .slice none 0 0, .int .i64 0, .int .i64 0] 34)) (w.heap.size + 1) 32 #[.slice An n.length cn] := (show Blk ((w.alloc (.cells #[.slice Ak by_.length ck] 32)).alloc (.cells #[.slice An n.length cn] 32)) (w.heap.size + 1) 32 #[.slice An n.length cn] from by have := Blk.new (w.alloc (.cells #[.slice Ak by_.length ck] 32)) 32 #[.slice An n.length cn]; rwa [World.size_alloc] at this).alloc _
  have hBR : Blk (((w.alloc (.cells #[.slice Ak by_.length ck] 32)).alloc (.cells #[.slice An n.length cn] 32)).alloc (.cells #[.slice none 0 0, .slice none 0 0, .slice none 0 0, .int .i64 0, .int .i64 0] 34)) (w.heap.size + 1 + 1) 34 #[.slice none 0 0, .slice none 0 0, .slice none 0 0, .int .i64 0, .int .i64 0] := by have := Blk.new ((w.alloc (.cells #[.slice Ak by_.length ck] 32)).alloc (.cells #[.slice An n.length cn] 32)) 34 #[.slice none 0 0, .slice none 0 0, .slice none 0 0, .int .i64 0, .int .i64 0]; rwa [World.size_alloc, World.size_alloc] at this
  have hvb : Below w.heap.size w (((w.alloc (.cells #[.slice Ak by_.length ck] 32)).alloc (.cells #[.slice An n.length cn] 32)).alloc (.cells #[.slice none 0 0, .slice none 0 0, .slice none 0 0, .int .i64 0, .int .i64 0] 34)) := (by repeat' (first | (with_reducible exact Below.refl _ _) | (with_reducible assumption) | (with_reducible refine bel_set ?_ (by (try dsimp only); omega) _) | (with_reducible refine bel_alloc ?_ _) | (with_reducible refine bel_drewN ?_ _) | (with_reducible refine bel_drew ?_)))
  have zb : w.heap.size + 1 + 1 < (((w.alloc (.cells #[.slice Ak by_.length ck] 32)).alloc (.cells #[.slice An n.length cn] 32)).alloc (.cells #[.slice none 0 0, .slice none 0 0, .slice none 0 0, .int .i64 0, .int .i64 0] 34)).heap.size := by simp only [World.size_alloc]; omega
  go_enter Tryz.func36, Tryz.ntmps36
  go_wp2_with fail
  generalize (((w.alloc (.cells #[.slice Ak by_.length ck] 32)).alloc (.cells #[.slice An n.length cn] 32)).alloc (.cells #[.slice none 0 0, .slice none 0 0, .slice none 0 0, .int .i64 0, .int .i64 0] 34)) = WX at hBK hBN hBR hvb zb ⊢
  have HB : Hid (∀ W, Below WX.heap.size WX W → Blk W (w.heap.size) 32 #[.slice Ak by_.length ck] ∧ Blk W (w.heap.size + 1) 32 #[.slice An n.length cn] ∧ Blk W (w.heap.size + 1 + 1) 34 #[.slice none 0 0, .slice none 0 0, .slice none 0 0, .int .i64 0, .int .i64 0]) := fun W hW => ⟨hBK.below hW (by omega), hBN.below hW (by omega), hBR.below hW zb⟩
  clear hBK hBN hBR
  have HS : Hid (∀ W, Below WX.heap.size WX W → Below WX.heap.size WX W ∧ W.cell? ⟨w.heap.size, 0, none⟩ = some (.slice Ak by_.length ck) ∧ W.cell? ⟨w.heap.size + 1, 0, none⟩ = some (.slice An n.length cn)) := fun W hW => ⟨hW, (HB.out W hW).1.cell 0, (HB.out W hW).2.1.cell 0⟩
  have hv0 : Below WX.heap.size WX WX := Below.refl _ _
  have zb1 : w.heap.size < WX.heap.size := by omega
  have zb2 : w.heap.size + 1 < WX.heap.size := by omega
  refine wp_region_noPanic ?_
  refine wp_region_held_drew (S := (fun W => Below WX.heap.size WX W ∧ W.cell? ⟨w.heap.size, 0, none⟩ = some (.slice Ak by_.length ck) ∧ W.cell? ⟨w.heap.size + 1, 0, none⟩ = some (.slice An n.length cn))) (by kernel_rfl) ?_ (fun hHeld => ?_)
  · exact HS.out _ (by (repeat' (first | (with_reducible exact Below.refl _ _) | (with_reducible assumption) | (with_reducible refine bel_set ?_ (by (try dsimp only); omega) _) | (with_reducible refine bel_alloc ?_ _) | (with_reducible refine bel_drewN ?_ _) | (with_reducible refine bel_drew ?_) | (with_reducible refine bel_trans ?_ (by assumption)))); done)
  refine tk 0 (opN rfl) (by kernel_rfl) (by rfl) (by (intro w hSw; (try dsimp only at hSw); go_simp; first | done | with_reducible rfl)) (by assumption) ?_
  try simp only [Act.put, List.setIfInBounds_toArray, List.set_cons_zero, List.set_cons_succ]
  refine tk 1 (opN rfl) (by kernel_rfl) (by rfl) (by (intro w hSw; (try dsimp only at hSw); go_simp; first | done | with_reducible rfl)) (by assumption) ?_
  try simp only [Act.put, List.setIfInBounds_toArray, List.set_cons_zero, List.set_cons_succ]
  refine tk 3 (opN rfl) (by kernel_rfl) (by rfl) (by (intro w hSw; (try dsimp only at hSw); go_simp; first | done | with_reducible rfl)) (by assumption) ?_
  try simp only [Act.put, List.setIfInBounds_toArray, List.set_cons_zero, List.set_cons_succ]
  refine tk 4 (opN rfl) (by kernel_rfl) (by rfl) (by (intro w hSw; (try dsimp only at hSw); go_simp; first | done | with_reducible rfl)) (by assumption) ?_
  try simp only [Act.put, List.setIfInBounds_toArray, List.set_cons_zero, List.set_cons_succ]
  refine tk 5 (opN rfl) (by kernel_rfl) (by rfl) (by (intro w hSw; (try dsimp only at hSw); go_simp; first | done | with_reducible rfl)) (by assumption) ?_
  try simp only [Act.put, List.setIfInBounds_toArray, List.set_cons_zero, List.set_cons_succ]
  refine tk 6 (opN rfl) (by kernel_rfl) (by rfl) (by (intro w hSw; (try dsimp only at hSw); go_simp; first | done | with_reducible rfl)) (by assumption) ?_
  try simp only [Act.put, List.setIfInBounds_toArray, List.set_cons_zero, List.set_cons_succ]
  refine tk 7 (opN rfl) (by kernel_rfl) (by rfl) (by (intro w hSw; (try dsimp only at hSw); go_simp; first | done | with_reducible rfl)) (by assumption) ?_
  try simp only [Act.put, List.setIfInBounds_toArray, List.set_cons_zero, List.set_cons_succ]
  refine wpAnyH_ready (rs := [2, 9]) (by kernel_rfl) (by simp) ?_
  refine AllReadyH.cons (opN rfl) (fun K hK => ?_) (AllReadyH.cons (opN rfl) (fun K hK => ?_) AllReadyH.nil)
  · go_simp
    go_at_call 48
    refine (C_spec_SecretOf _ _ l _ by_ (Ty.rd_below (by (repeat' (first | (with_reducible exact Below.refl _ _) | (with_reducible assumption) | (with_reducible refine bel_set ?_ (by (try dsimp only); omega) _) | (with_reducible refine bel_alloc ?_ _) | (with_reducible refine bel_drewN ?_ _) | (with_reducible refine bel_drew ?_) | (with_reducible refine bel_trans ?_ (by assumption)))); done) (Ty.rd_below hvb h0)) (Ty.rd_below (by (repeat' (first | (with_reducible exact Below.refl _ _) | (with_reducible assumption) | (with_reducible refine bel_set ?_ (by (try dsimp only); omega) _) | (with_reducible refine bel_alloc ?_ _) | (with_reducible refine bel_drewN ?_ _) | (with_reducible refine bel_drew ?_) | (with_reducible refine bel_trans ?_ (by assumption)))); done) (Ty.rd_below hvb h1)) s0 s1).mono ?_
    rintro e w1 ⟨rfl, hb1⟩
    have hx1 : Below WX.heap.size WX w1 := (by (repeat' (first | (with_reducible exact Below.refl _ _) | (with_reducible assumption) | (with_reducible refine bel_set ?_ (by (try dsimp only); omega) _) | (with_reducible refine bel_alloc ?_ _) | (with_reducible refine bel_drewN ?_ _) | (with_reducible refine bel_drew ?_) | (with_reducible refine bel_trans ?_ (by assumption)))); done)
    refine hK.out _ _ ?_ (fun hHeld => ?_)
    · (try dsimp only)
      exact HS.out _ (by (repeat' (first | (with_reducible exact Below.refl _ _) | (with_reducible assumption) | (with_reducible refine bel_set ?_ (by (try dsimp only); omega) _) | (with_reducible refine bel_alloc ?_ _) | (with_reducible refine bel_drewN ?_ _) | (with_reducible refine bel_drew ?_) | (with_reducible refine bel_trans ?_ (by assumption)))); done)
    clear hK K
    try simp only [Act.put, List.setIfInBounds_toArray, List.set_cons_zero, List.set_cons_succ]
    refine wpAnyH_ready (rs := [8, 9]) (by kernel_rfl) (by simp) ?_
    refine AllReadyH.cons (opN rfl) (fun K hK => ?_) (AllReadyH.cons (opN rfl) (fun K hK => ?_) AllReadyH.nil)
    · go_simp
      go_at_call 96
      refine (C_spec_SignDataR _ _ _ (swkD by_ n b till) (rd_Data_mk (x := swkD by_ n b till) (Ty.rd_below (by (repeat' (first | (with_reducible exact Below.refl _ _) | (with_reducible assumption) | (with_reducible refine bel_set ?_ (by (try dsimp only); omega) _) | (with_reducible refine bel_alloc ?_ _) | (with_reducible refine bel_drewN ?_ _) | (with_reducible refine bel_drew ?_) | (with_reducible refine bel_trans ?_ (by assumption)))); done) (Ty.rd_below hvb h2)) (Ty.rd_below (by (repeat' (first | (with_reducible exact Below.refl _ _) | (with_reducible assumption) | (with_reducible refine bel_set ?_ (by (try dsimp only); omega) _) | (with_reducible refine bel_alloc ?_ _) | (with_reducible refine bel_drewN ?_ _) | (with_reducible refine bel_drew ?_) | (with_reducible refine bel_trans ?_ (by assumption)))); done) (Ty.rd_below hvb h3)) (Ty.rd_below (by (repeat' (first | (with_reducible exact Below.refl _ _) | (with_reducible assumption) | (with_reducible refine bel_set ?_ (by (try dsimp only); omega) _) | (with_reducible refine bel_alloc ?_ _) | (with_reducible refine bel_drewN ?_ _) | (with_reducible refine bel_drew ?_) | (with_reducible refine bel_trans ?_ (by assumption)))); done) (Ty.rd_below hvb h1)) i4 (by show _ ≤ (0 : Int) ∧ (0 : Int) ≤ _; decide)) hsb hbk).mono ?_
      rw [← HX.out]
      rintro e w2 ⟨csx, rfl, hdx, hb2⟩; obtain ⟨fpx, howx, hfrx⟩ := hdx.ow
      obtain ⟨Ad0, cd0, Ad1, cd1, Ad2, cd2, rfl⟩ := ow_Data howx; obtain ⟨LO, hLO, hdx2⟩ : ∃ LO, LO = _ ∧ DataR 5 w2 LO w2.heap.size _ X := ⟨_, rfl, hdx⟩; (try simp only [World.size_alloc, World.size_drew, size_drewN] at hLO); have HDX := Lib.hid hdx2; have HLO := Lib.hid hLO; clear hdx hdx2 hLO
      have hx2 : Below WX.heap.size WX w2 := (by (repeat' (first | (with_reducible exact Below.refl _ _) | (with_reducible assumption) | (with_reducible refine bel_set ?_ (by (try dsimp only); omega) _) | (with_reducible refine bel_alloc ?_ _) | (with_reducible refine bel_drewN ?_ _) | (with_reducible refine bel_drew ?_) | (with_reducible refine bel_trans ?_ (by assumption)))); done)
      refine hK.out _ _ ?_ (fun hHeld => ?_)
      · (try dsimp only)
        exact HS.out _ (by (repeat' (first | (with_reducible exact Below.refl _ _) | (with_reducible assumption) | (with_reducible refine bel_set ?_ (by (try dsimp only); omega) _) | (with_reducible refine bel_alloc ?_ _) | (with_reducible refine bel_drewN ?_ _) | (with_reducible refine bel_drew ?_) | (with_reducible refine bel_trans ?_ (by assumption)))); done)
      clear hK K
      try simp only [Act.put, List.setIfInBounds_toArray, List.set_cons_zero, List.set_cons_succ]
      have hzs1 := hb1.size
      have hzs2 := hb2.size
      try simp only [World.size_alloc, World.size_drew, size_drewN] at hzs1 hzs2
      refine wpAnyH_ready (rs := [9]) (by kernel_rfl) (by simp) ?_
      refine (AllReadyH.cons (opN rfl) (fun K hK => ?_) AllReadyH.nil)
      go_simp
      refine hK.out _ _ ?_ (fun hHeld => ?_)
      · (try dsimp only)
        exact HS.out _ (by (repeat' (first | (with_reducible exact Below.refl _ _) | (with_reducible assumption) | (with_reducible refine bel_set ?_ (by (try dsimp only); omega) _) | (with_reducible refine bel_alloc ?_ _) | (with_reducible refine bel_drewN ?_ _) | (with_reducible refine bel_drew ?_) | (with_reducible refine bel_trans ?_ (by assumption)))); done)
      clear hK K
      try simp only [Act.put, List.setIfInBounds_toArray, List.set_cons_zero, List.set_cons_succ]
      refine wpAnyH_ready (rs := [10]) (by kernel_rfl) (by simp) ?_
      refine (AllReadyH.cons (opN rfl) (fun K hK => ?_) AllReadyH.nil)
      go_simp
      refine hK.out _ _ ?_ (fun hHeld => ?_)
      · (try dsimp only)
        exact HS.out _ (by (repeat' (first | (with_reducible exact Below.refl _ _) | (with_reducible assumption) | (with_reducible refine bel_set ?_ (by (try dsimp only); omega) _) | (with_reducible refine bel_alloc ?_ _) | (with_reducible refine bel_drewN ?_ _) | (with_reducible refine bel_drew ?_) | (with_reducible refine bel_trans ?_ (by assumption)))); done)
      clear hK K
      try simp only [Act.put, List.setIfInBounds_toArray, List.set_cons_zero, List.set_cons_succ]
      refine wpAnyH_done (by kernel_rfl) ?_ _
      refine NoPanic.normal ?_
      go_wp2_with fail
      refine (C_spec_SecretOf _ _ l _ by_ (Ty.rd_below (by (repeat' (first | (with_reducible exact Below.refl _ _) | (with_reducible assumption) | (with_reducible refine bel_set ?_ (by (try dsimp only); omega) _) | (with_reducible refine bel_alloc ?_ _) | (with_reducible refine bel_drewN ?_ _) | (with_reducible refine bel_drew ?_) | (with_reducible refine bel_trans ?_ (by assumption)))); done) (Ty.rd_below hvb h0)) (Ty.rd_below (by (repeat' (first | (with_reducible exact Below.refl _ _) | (with_reducible assumption) | (with_reducible refine bel_set ?_ (by (try dsimp only); omega) _) | (with_reducible refine bel_alloc ?_ _) | (with_reducible refine bel_drewN ?_ _) | (with_reducible refine bel_drew ?_) | (with_reducible refine bel_trans ?_ (by assumption)))); done) (Ty.rd_below hvb h1)) s0 s1).mono ?_
      rintro e w4 ⟨rfl, hb4⟩
      have hz4 := hb4.size
      try simp only [World.size_alloc, World.size_setCell, World.size_drew, size_drewN] at hz4
      have hx4 : Below WX.heap.size WX w4 := (by (repeat' (first | (with_reducible exact Below.refl _ _) | (with_reducible assumption) | (with_reducible refine bel_set ?_ (by (try dsimp only); omega) _) | (with_reducible refine bel_alloc ?_ _) | (with_reducible refine bel_drewN ?_ _) | (with_reducible refine bel_drew ?_) | (with_reducible refine bel_trans ?_ (by assumption)))); done)
      have hw4 : Below w.heap.size w w4 := bel_trans hvb hx4
      have hX4 : Blk w4 (w2.heap.size) 34 #[.slice Ad0 (List.length X.1) cd0, .slice Ad1 (List.length X.2.1) cd1, .slice Ad2 (List.length X.2.2.1) cd2, .int .i64 X.2.2.2.1, .int .i64 X.2.2.2.2] := by
        refine Blk.below (w := _) (B := _) ?_ hb4 (by simp only [World.size_alloc, World.size_setCell, World.size_drew, size_drewN]; omega)
        exact Blk.new _ _ _
      obtain ⟨hK4, hN4, hR4⟩ := HB.out _ (hx4)
      have kR_4_0 : w4.cell? ⟨w.heap.size + 1 + 1, 0, none⟩ = some (.slice none 0 0) := hR4.cell 0
      have fR_4_0 : w4.frozen? ⟨w.heap.size + 1 + 1, 0, none⟩ = false := hR4.frozen 0
      have kR_4_1 : w4.cell? ⟨w.heap.size + 1 + 1, 1, none⟩ = some (.slice none 0 0) := hR4.cell 1
      have fR_4_1 : w4.frozen? ⟨w.heap.size + 1 + 1, 1, none⟩ = false := hR4.frozen 1
      have kR_4_2 : w4.cell? ⟨w.heap.size + 1 + 1, 2, none⟩ = some (.slice none 0 0) := hR4.cell 2
      have fR_4_2 : w4.frozen? ⟨w.heap.size + 1 + 1, 2, none⟩ = false := hR4.frozen 2
      have kR_4_3 : w4.cell? ⟨w.heap.size + 1 + 1, 3, none⟩ = some (.int .i64 0) := hR4.cell 3
      have fR_4_3 : w4.frozen? ⟨w.heap.size + 1 + 1, 3, none⟩ = false := hR4.frozen 3
      have kR_4_4 : w4.cell? ⟨w.heap.size + 1 + 1, 4, none⟩ = some (.int .i64 0) := hR4.cell 4
      have fR_4_4 : w4.frozen? ⟨w.heap.size + 1 + 1, 4, none⟩ = false := hR4.frozen 4
      have zR_4 : w.heap.size + 1 + 1 < w4.heap.size := hR4.lt
      have kX_4_0 : w4.cell? ⟨w2.heap.size, 0, none⟩ = some (.slice Ad0 (List.length X.1) cd0) := hX4.cell 0
      have fX_4_0 : w4.frozen? ⟨w2.heap.size, 0, none⟩ = false := hX4.frozen 0
      have kX_4_1 : w4.cell? ⟨w2.heap.size, 1, none⟩ = some (.slice Ad1 (List.length X.2.1) cd1) := hX4.cell 1
      have fX_4_1 : w4.frozen? ⟨w2.heap.size, 1, none⟩ = false := hX4.frozen 1
      have kX_4_2 : w4.cell? ⟨w2.heap.size, 2, none⟩ = some (.slice Ad2 (List.length X.2.2.1) cd2) := hX4.cell 2
      have fX_4_2 : w4.frozen? ⟨w2.heap.size, 2, none⟩ = false := hX4.frozen 2
      have kX_4_3 : w4.cell? ⟨w2.heap.size, 3, none⟩ = some (.int .i64 X.2.2.2.1) := hX4.cell 3
      have fX_4_3 : w4.frozen? ⟨w2.heap.size, 3, none⟩ = false := hX4.frozen 3
      have kX_4_4 : w4.cell? ⟨w2.heap.size, 4, none⟩ = some (.int .i64 X.2.2.2.2) := hX4.cell 4
      have fX_4_4 : w4.frozen? ⟨w2.heap.size, 4, none⟩ = false := hX4.frozen 4
      have zX_4 : w2.heap.size < w4.heap.size := hX4.lt
      by_cases hz : f_SecretOf l by_ = 0
      · have q0 : (f_SecretOf l by_ == 0) = true := by simp [hz]
        have HFF : Hid (F1 = false) := by show _ = _; rw [HF1.out, hz]; rfl
        clear hz
        go_wp2
        refine bodyPost_ret (v := .tuple #[.agg #[.slice none 0 0, .slice none 0 0, .slice none 0 0, .int .i64 0, .int .i64 0], .bool false]) (by simp [results, Tryz.results36, go_sem, kR_4_0, fR_4_0, kR_4_1, fR_4_1, kR_4_2, fR_4_2, kR_4_3, fR_4_3, kR_4_4, fR_4_4, kX_4_0, fX_4_0, kX_4_1, fX_4_1, kX_4_2, fX_4_2, kX_4_3, fX_4_3, kX_4_4, fX_4_4, zR_4, zX_4]) rfl ?_
        rw [HNO.out HFF.out, HFF.out]
        refine viaP (p := Below w.heap.size w _) ?_ (fun hb => ⟨_, rfl, (DataR.zero _ _).mono hb.size (Nat.le_refl _) (Nat.le_refl _), hb⟩)
        ((repeat' (first | (with_reducible exact Below.refl _ _) | (with_reducible assumption) | (with_reducible refine bel_set ?_ (by (try dsimp only); omega) _) | (with_reducible refine bel_alloc ?_ _) | (with_reducible refine bel_drewN ?_ _) | (with_reducible refine bel_drew ?_) | (with_reducible refine bel_trans ?_ (by assumption)))); done)
      have q0 : (f_SecretOf l by_ == 0) = false := by simp [hz]
      have HZ : Hid (decide (f_SecretOf l by_ = 0) = false) := by show _ = _; simp [hz]
      clear hz
      go_wp2_with fail
      refine (C_spec_ValidDataG _ _ X (Ty.rd_below hb4 (Ty.ow_rd (Ty.ow_keep (by intro b hb'; have hb'' := (hfrx).2 b hb'; (try simp only [World.size_alloc, World.size_setCell, size_drewN, World.size_drew] at hb''); repeat (first | (with_reducible rfl) | (rw [Below.heap_setCell _ _ _ _ (by (try dsimp only); omega)]) | (rw [Below.heap_alloc _ _ _ (by (try simp only [World.size_alloc, World.size_setCell]); omega)]))) howx)))).mono ?_
      rintro e w5 ⟨rfl, hb5⟩
      have hz5 := hb5.size
      have hx5 : Below WX.heap.size WX w5 := bel_trans hx4 hb5
      have hw5 : Below w.heap.size w w5 := bel_trans hvb hx5
      clear kR_4_0 fR_4_0 kR_4_1 fR_4_1 kR_4_2 fR_4_2 kR_4_3 fR_4_3 kR_4_4 fR_4_4 kX_4_0 fX_4_0 kX_4_1 fX_4_1 kX_4_2 fX_4_2 kX_4_3 fX_4_3 kX_4_4 fX_4_4
      obtain ⟨hK5, hN5, hR5⟩ := HB.out _ (hx5)
      have hX5 : Blk w5 (w2.heap.size) 34 #[.slice Ad0 (List.length X.1) cd0, .slice Ad1 (List.length X.2.1) cd1, .slice Ad2 (List.length X.2.2.1) cd2, .int .i64 X.2.2.2.1, .int .i64 X.2.2.2.2] := hX4.below hb5 (hX4.lt)
      have kR_5_0 : w5.cell? ⟨w.heap.size + 1 + 1, 0, none⟩ = some (.slice none 0 0) := hR5.cell 0
      have fR_5_0 : w5.frozen? ⟨w.heap.size + 1 + 1, 0, none⟩ = false := hR5.frozen 0
      have kR_5_1 : w5.cell? ⟨w.heap.size + 1 + 1, 1, none⟩ = some (.slice none 0 0) := hR5.cell 1
      have fR_5_1 : w5.frozen? ⟨w.heap.size + 1 + 1, 1, none⟩ = false := hR5.frozen 1
      have kR_5_2 : w5.cell? ⟨w.heap.size + 1 + 1, 2, none⟩ = some (.slice none 0 0) := hR5.cell 2
      have fR_5_2 : w5.frozen? ⟨w.heap.size + 1 + 1, 2, none⟩ = false := hR5.frozen 2
      have kR_5_3 : w5.cell? ⟨w.heap.size + 1 + 1, 3, none⟩ = some (.int .i64 0) := hR5.cell 3
      have fR_5_3 : w5.frozen? ⟨w.heap.size + 1 + 1, 3, none⟩ = false := hR5.frozen 3
      have kR_5_4 : w5.cell? ⟨w.heap.size + 1 + 1, 4, none⟩ = some (.int .i64 0) := hR5.cell 4
      have fR_5_4 : w5.frozen? ⟨w.heap.size + 1 + 1, 4, none⟩ = false := hR5.frozen 4
      have zR_5 : w.heap.size + 1 + 1 < w5.heap.size := hR5.lt
      have kX_5_0 : w5.cell? ⟨w2.heap.size, 0, none⟩ = some (.slice Ad0 (List.length X.1) cd0) := hX5.cell 0
      have fX_5_0 : w5.frozen? ⟨w2.heap.size, 0, none⟩ = false := hX5.frozen 0
      have kX_5_1 : w5.cell? ⟨w2.heap.size, 1, none⟩ = some (.slice Ad1 (List.length X.2.1) cd1) := hX5.cell 1
      have fX_5_1 : w5.frozen? ⟨w2.heap.size, 1, none⟩ = false := hX5.frozen 1
      have kX_5_2 : w5.cell? ⟨w2.heap.size, 2, none⟩ = some (.slice Ad2 (List.length X.2.2.1) cd2) := hX5.cell 2
      have fX_5_2 : w5.frozen? ⟨w2.heap.size, 2, none⟩ = false := hX5.frozen 2
      have kX_5_3 : w5.cell? ⟨w2.heap.size, 3, none⟩ = some (.int .i64 X.2.2.2.1) := hX5.cell 3
      have fX_5_3 : w5.frozen? ⟨w2.heap.size, 3, none⟩ = false := hX5.frozen 3
      have kX_5_4 : w5.cell? ⟨w2.heap.size, 4, none⟩ = some (.int .i64 X.2.2.2.2) := hX5.cell 4
      have fX_5_4 : w5.frozen? ⟨w2.heap.size, 4, none⟩ = false := hX5.frozen 4
      have zX_5 : w2.heap.size < w5.heap.size := hX5.lt
      cases q1 : f_ValidData X
      · have HFF : Hid (F1 = false) := by show _ = _; rw [HF1.out, HZ.out, q1]; rfl
        clear q1
        go_wp2
        refine bodyPost_ret (v := .tuple #[.agg #[.slice none 0 0, .slice none 0 0, .slice none 0 0, .int .i64 0, .int .i64 0], .bool false]) (by simp [results, Tryz.results36, go_sem, kR_5_0, fR_5_0, kR_5_1, fR_5_1, kR_5_2, fR_5_2, kR_5_3, fR_5_3, kR_5_4, fR_5_4, kX_5_0, fX_5_0, kX_5_1, fX_5_1, kX_5_2, fX_5_2, kX_5_3, fX_5_3, kX_5_4, fX_5_4, zR_5, zX_5]) rfl ?_
        rw [HNO.out HFF.out, HFF.out]
        refine viaP (p := Below w.heap.size w _) ?_ (fun hb => ⟨_, rfl, (DataR.zero _ _).mono hb.size (Nat.le_refl _) (Nat.le_refl _), hb⟩)
        ((repeat' (first | (with_reducible exact Below.refl _ _) | (with_reducible assumption) | (with_reducible refine bel_set ?_ (by (try dsimp only); omega) _) | (with_reducible refine bel_alloc ?_ _) | (with_reducible refine bel_drewN ?_ _) | (with_reducible refine bel_drew ?_) | (with_reducible refine bel_trans ?_ (by assumption)))); done)
      · have HFF : Hid (F1 = true) := by show _ = _; rw [HF1.out, HZ.out, q1]; rfl
        clear q1
        go_wp2
        refine bodyPost_ret (v := .tuple #[.agg #[.slice Ad0 (List.length X.1) cd0, .slice Ad1 (List.length X.2.1) cd1, .slice Ad2 (List.length X.2.2.1) cd2, .int .i64 X.2.2.2.1, .int .i64 X.2.2.2.2], .bool true]) (by simp [results, Tryz.results36, go_sem, kR_5_0, fR_5_0, kR_5_1, fR_5_1, kR_5_2, fR_5_2, kR_5_3, fR_5_3, kR_5_4, fR_5_4, kX_5_0, fX_5_0, kX_5_1, fX_5_1, kX_5_2, fX_5_2, kX_5_3, fX_5_3, kX_5_4, fX_5_4, zR_5, zX_5]) rfl ?_
        rw [HYES.out HFF.out, HFF.out]
        refine viaP (p := Below w.heap.size w _) ?_ (fun hb => ⟨_, rfl, DataR.mono (lo := LO) (hi := w2.heap.size) ?_ ?_ ?_ (Nat.le_refl _), hb⟩)
        · ((repeat' (first | (with_reducible exact Below.refl _ _) | (with_reducible assumption) | (with_reducible refine bel_set ?_ (by (try dsimp only); omega) _) | (with_reducible refine bel_alloc ?_ _) | (with_reducible refine bel_drewN ?_ _) | (with_reducible refine bel_drew ?_) | (with_reducible refine bel_trans ?_ (by assumption)))); done)
        · have hLO2 := HLO.out
          clear HB HS HLO HNO HYES HF1
          exact (by repeat' (first | (with_reducible exact HDX.out) | (with_reducible refine DataR.set ?_ (.inl (by (try dsimp only); omega)) _) | (with_reducible refine DataR.set ?_ (.inr (by (try dsimp only); omega)) _) | (with_reducible refine DataR.alloc ?_ _) | (with_reducible refine DataR.drewN ?_ _) | (with_reducible refine DataR.drew ?_) | (with_reducible refine DataR.below ?_ hb5) | (with_reducible refine DataR.below ?_ hb4)))
        · have hLO2 := HLO.out
          omega
        · (try simp only [World.size_alloc, World.size_setCell, size_drewN, World.size_drew]); omega
    · go_simp
      refine hK.out _ _ ?_ (fun hHeld => ?_)
      · (try dsimp only)
        exact HS.out _ (by (repeat' (first | (with_reducible exact Below.refl _ _) | (with_reducible assumption) | (with_reducible refine bel_set ?_ (by (try dsimp only); omega) _) | (with_reducible refine bel_alloc ?_ _) | (with_reducible refine bel_drewN ?_ _) | (with_reducible refine bel_drew ?_) | (with_reducible refine bel_trans ?_ (by assumption)))); done)
      clear hK K
      try simp only [Act.put, List.setIfInBounds_toArray, List.set_cons_zero, List.set_cons_succ]
      refine wpAnyH_ready (rs := [8]) (by kernel_rfl) (by simp) ?_
      refine (AllReadyH.cons (opN rfl) (fun K hK => ?_) AllReadyH.nil)
      go_simp
      go_at_call 96
      refine (C_spec_SignDataR _ _ _ (swkD by_ n b till) (rd_Data_mk (x := swkD by_ n b till) (Ty.rd_below (by (repeat' (first | (with_reducible exact Below.refl _ _) | (with_reducible assumption) | (with_reducible refine bel_set ?_ (by (try dsimp only); omega) _) | (with_reducible refine bel_alloc ?_ _) | (with_reducible refine bel_drewN ?_ _) | (with_reducible refine bel_drew ?_) | (with_reducible refine bel_trans ?_ (by assumption)))); done) (Ty.rd_below hvb h2)) (Ty.rd_below (by (repeat' (first | (with_reducible exact Below.refl _ _) | (with_reducible assumption) | (with_reducible refine bel_set ?_ (by (try dsimp only); omega) _) | (with_reducible refine bel_alloc ?_ _) | (with_reducible refine bel_drewN ?_ _) | (with_reducible refine bel_drew ?_) | (with_reducible refine bel_trans ?_ (by assumption)))); done) (Ty.rd_below hvb h3)) (Ty.rd_below (by (repeat' (first | (with_reducible exact Below.refl _ _) | (with_reducible assumption) | (with_reducible refine bel_set ?_ (by (try dsimp only); omega) _) | (with_reducible refine bel_alloc ?_ _) | (with_reducible refine bel_drewN ?_ _) | (with_reducible refine bel_drew ?_) | (with_reducible refine bel_trans ?_ (by assumption)))); done) (Ty.rd_below hvb h1)) i4 (by show _ ≤ (0 : Int) ∧ (0 : Int) ≤ _; decide)) hsb hbk).mono ?_
      rw [← HX.out]
      rintro e w2 ⟨csx, rfl, hdx, hb2⟩; obtain ⟨fpx, howx, hfrx⟩ := hdx.ow
      obtain ⟨Ad0, cd0, Ad1, cd1, Ad2, cd2, rfl⟩ := ow_Data howx; obtain ⟨LO, hLO, hdx2⟩ : ∃ LO, LO = _ ∧ DataR 5 w2 LO w2.heap.size _ X := ⟨_, rfl, hdx⟩; (try simp only [World.size_alloc, World.size_drew, size_drewN] at hLO); have HDX := Lib.hid hdx2; have HLO := Lib.hid hLO; clear hdx hdx2 hLO
      have hx2 : Below WX.heap.size WX w2 := (by (repeat' (first | (with_reducible exact Below.refl _ _) | (with_reducible assumption) | (with_reducible refine bel_set ?_ (by (try dsimp only); omega) _) | (with_reducible refine bel_alloc ?_ _) | (with_reducible refine bel_drewN ?_ _) | (with_reducible refine bel_drew ?_) | (with_reducible refine bel_trans ?_ (by assumption)))); done)
      refine hK.out _ _ ?_ (fun hHeld => ?_)
      · (try dsimp only)
        exact HS.out _ (by (repeat' (first | (with_reducible exact Below.refl _ _) | (with_reducible assumption) | (with_reducible refine bel_set ?_ (by (try dsimp only); omega) _) | (with_reducible refine bel_alloc ?_ _) | (with_reducible refine bel_drewN ?_ _) | (with_reducible refine bel_drew ?_) | (with_reducible refine bel_trans ?_ (by assumption)))); done)
      clear hK K
      try simp only [Act.put, List.setIfInBounds_toArray, List.set_cons_zero, List.set_cons_succ]
      have hzs1 := hb1.size
      have hzs2 := hb2.size
      try simp only [World.size_alloc, World.size_drew, size_drewN] at hzs1 hzs2
      have hG2 : Blk w2 (w1.heap.size) 34 #[.slice none 0 0, .slice none 0 0, .slice none 0 0, .int .i64 0, .int .i64 0] := by
        first
          | exact (Blk.new (w1) _ _).below hb2 (by simp only [World.size_alloc, World.size_drew, size_drewN]; omega)
          | exact (Blk.drew (Blk.new (w1) _ _)).below hb2 (by simp only [World.size_alloc, World.size_drew, size_drewN]; omega)
          | exact ((Blk.drew (Blk.new (w1) _ _)).below hb1 (by simp only [World.size_alloc, World.size_drew, size_drewN]; omega)).below hb2 (by have := hb1.size; simp only [World.size_alloc, World.size_drew, size_drewN] at this; omega)
          | exact ((Blk.new (w1) _ _).below hb1 (by simp only [World.size_alloc, World.size_drew, size_drewN]; omega)).below hb2 (by have := hb1.size; simp only [World.size_alloc, World.size_drew, size_drewN] at this; omega)
      have kG_2_0 : w2.cell? ⟨w1.heap.size, 0, none⟩ = some (.slice none 0 0) := hG2.cell 0
      have fG_2_0 : w2.frozen? ⟨w1.heap.size, 0, none⟩ = false := hG2.frozen 0
      have kG_2_1 : w2.cell? ⟨w1.heap.size, 1, none⟩ = some (.slice none 0 0) := hG2.cell 1
      have fG_2_1 : w2.frozen? ⟨w1.heap.size, 1, none⟩ = false := hG2.frozen 1
      have kG_2_2 : w2.cell? ⟨w1.heap.size, 2, none⟩ = some (.slice none 0 0) := hG2.cell 2
      have fG_2_2 : w2.frozen? ⟨w1.heap.size, 2, none⟩ = false := hG2.frozen 2
      have kG_2_3 : w2.cell? ⟨w1.heap.size, 3, none⟩ = some (.int .i64 0) := hG2.cell 3
      have fG_2_3 : w2.frozen? ⟨w1.heap.size, 3, none⟩ = false := hG2.frozen 3
      have kG_2_4 : w2.cell? ⟨w1.heap.size, 4, none⟩ = some (.int .i64 0) := hG2.cell 4
      have fG_2_4 : w2.frozen? ⟨w1.heap.size, 4, none⟩ = false := hG2.frozen 4
      have zG_2 : w1.heap.size < w2.heap.size := hG2.lt
      refine wpAnyH_ready (rs := [10]) (by kernel_rfl) (by simp) ?_
      refine (AllReadyH.cons (opN rfl) (fun K hK => ?_) AllReadyH.nil)
      go_simp
      refine hK.out _ _ ?_ (fun hHeld => ?_)
      · (try dsimp only)
        exact HS.out _ (by (repeat' (first | (with_reducible exact Below.refl _ _) | (with_reducible assumption) | (with_reducible refine bel_set ?_ (by (try dsimp only); omega) _) | (with_reducible refine bel_alloc ?_ _) | (with_reducible refine bel_drewN ?_ _) | (with_reducible refine bel_drew ?_) | (with_reducible refine bel_trans ?_ (by assumption)))); done)
      clear hK K
      try simp only [Act.put, List.setIfInBounds_toArray, List.set_cons_zero, List.set_cons_succ]
      clear kG_2_0 fG_2_0 kG_2_1 fG_2_1 kG_2_2 fG_2_2 kG_2_3 fG_2_3 kG_2_4 fG_2_4
      refine wpAnyH_done (by kernel_rfl) ?_ _
      refine NoPanic.normal ?_
      go_wp2_with fail
      refine (C_spec_SecretOf _ _ l _ by_ (Ty.rd_below (by (repeat' (first | (with_reducible exact Below.refl _ _) | (with_reducible assumption) | (with_reducible refine bel_set ?_ (by (try dsimp only); omega) _) | (with_reducible refine bel_alloc ?_ _) | (with_reducible refine bel_drewN ?_ _) | (with_reducible refine bel_drew ?_) | (with_reducible refine bel_trans ?_ (by assumption)))); done) (Ty.rd_below hvb h0)) (Ty.rd_below (by (repeat' (first | (with_reducible exact Below.refl _ _) | (with_reducible assumption) | (with_reducible refine bel_set ?_ (by (try dsimp only); omega) _) | (with_reducible refine bel_alloc ?_ _) | (with_reducible refine bel_drewN ?_ _) | (with_reducible refine bel_drew ?_) | (with_reducible refine bel_trans ?_ (by assumption)))); done) (Ty.rd_below hvb h1)) s0 s1).mono ?_
      rintro e w4 ⟨rfl, hb4⟩
      have hz4 := hb4.size
      try simp only [World.size_alloc, World.size_setCell, World.size_drew, size_drewN] at hz4
      have hx4 : Below WX.heap.size WX w4 := (by (repeat' (first | (with_reducible exact Below.refl _ _) | (with_reducible assumption) | (with_reducible refine bel_set ?_ (by (try dsimp only); omega) _) | (with_reducible refine bel_alloc ?_ _) | (with_reducible refine bel_drewN ?_ _) | (with_reducible refine bel_drew ?_) | (with_reducible refine bel_trans ?_ (by assumption)))); done)
      have hw4 : Below w.heap.size w w4 := bel_trans hvb hx4
      have hX4 : Blk w4 (w1.heap.size) 34 #[.slice Ad0 (List.length X.1) cd0, .slice Ad1 (List.length X.2.1) cd1, .slice Ad2 (List.length X.2.2.1) cd2, .int .i64 X.2.2.2.1, .int .i64 X.2.2.2.2] := by
        refine Blk.below (w := _) (B := _) ?_ hb4 (by simp only [World.size_alloc, World.size_setCell, World.size_drew, size_drewN]; omega)
        exact ((((hG2.set_ 0 _).set_ 1 _).set_ 2 _).set_ 3 _).set_ 4 _
      obtain ⟨hK4, hN4, hR4⟩ := HB.out _ (hx4)
      have kR_4_0 : w4.cell? ⟨w.heap.size + 1 + 1, 0, none⟩ = some (.slice none 0 0) := hR4.cell 0
      have fR_4_0 : w4.frozen? ⟨w.heap.size + 1 + 1, 0, none⟩ = false := hR4.frozen 0
      have kR_4_1 : w4.cell? ⟨w.heap.size + 1 + 1, 1, none⟩ = some (.slice none 0 0) := hR4.cell 1
      have fR_4_1 : w4.frozen? ⟨w.heap.size + 1 + 1, 1, none⟩ = false := hR4.frozen 1
      have kR_4_2 : w4.cell? ⟨w.heap.size + 1 + 1, 2, none⟩ = some (.slice none 0 0) := hR4.cell 2
      have fR_4_2 : w4.frozen? ⟨w.heap.size + 1 + 1, 2, none⟩ = false := hR4.frozen 2
      have kR_4_3 : w4.cell? ⟨w.heap.size + 1 + 1, 3, none⟩ = some (.int .i64 0) := hR4.cell 3
      have fR_4_3 : w4.frozen? ⟨w.heap.size + 1 + 1, 3, none⟩ = false := hR4.frozen 3
      have kR_4_4 : w4.cell? ⟨w.heap.size + 1 + 1, 4, none⟩ = some (.int .i64 0) := hR4.cell 4
      have fR_4_4 : w4.frozen? ⟨w.heap.size + 1 + 1, 4, none⟩ = false := hR4.frozen 4
      have zR_4 : w.heap.size + 1 + 1 < w4.heap.size := hR4.lt
      have kX_4_0 : w4.cell? ⟨w1.heap.size, 0, none⟩ = some (.slice Ad0 (List.length X.1) cd0) := hX4.cell 0
      have fX_4_0 : w4.frozen? ⟨w1.heap.size, 0, none⟩ = false := hX4.frozen 0
      have kX_4_1 : w4.cell? ⟨w1.heap.size, 1, none⟩ = some (.slice Ad1 (List.length X.2.1) cd1) := hX4.cell 1
      have fX_4_1 : w4.frozen? ⟨w1.heap.size, 1, none⟩ = false := hX4.frozen 1
      have kX_4_2 : w4.cell? ⟨w1.heap.size, 2, none⟩ = some (.slice Ad2 (List.length X.2.2.1) cd2) := hX4.cell 2
      have fX_4_2 : w4.frozen? ⟨w1.heap.size, 2, none⟩ = false := hX4.frozen 2
      have kX_4_3 : w4.cell? ⟨w1.heap.size, 3, none⟩ = some (.int .i64 X.2.2.2.1) := hX4.cell 3
      have fX_4_3 : w4.frozen? ⟨w1.heap.size, 3, none⟩ = false := hX4.frozen 3
      have kX_4_4 : w4.cell? ⟨w1.heap.size, 4, none⟩ = some (.int .i64 X.2.2.2.2) := hX4.cell 4
      have fX_4_4 : w4.frozen? ⟨w1.heap.size, 4, none⟩ = false := hX4.frozen 4
      have zX_4 : w1.heap.size < w4.heap.size := hX4.lt
      by_cases hz : f_SecretOf l by_ = 0
      · have q0 : (f_SecretOf l by_ == 0) = true := by simp [hz]
        have HFF : Hid (F1 = false) := by show _ = _; rw [HF1.out, hz]; rfl
        clear hz
        go_wp2
        refine bodyPost_ret (v := .tuple #[.agg #[.slice none 0 0, .slice none 0 0, .slice none 0 0, .int .i64 0, .int .i64 0], .bool false]) (by simp [results, Tryz.results36, go_sem, kR_4_0, fR_4_0, kR_4_1, fR_4_1, kR_4_2, fR_4_2, kR_4_3, fR_4_3, kR_4_4, fR_4_4, kX_4_0, fX_4_0, kX_4_1, fX_4_1, kX_4_2, fX_4_2, kX_4_3, fX_4_3, kX_4_4, fX_4_4, zR_4, zX_4]) rfl ?_
        rw [HNO.out HFF.out, HFF.out]
        refine viaP (p := Below w.heap.size w _) ?_ (fun hb => ⟨_, rfl, (DataR.zero _ _).mono hb.size (Nat.le_refl _) (Nat.le_refl _), hb⟩)
        ((repeat' (first | (with_reducible exact Below.refl _ _) | (with_reducible assumption) | (with_reducible refine bel_set ?_ (by (try dsimp only); omega) _) | (with_reducible refine bel_alloc ?_ _) | (with_reducible refine bel_drewN ?_ _) | (with_reducible refine bel_drew ?_) | (with_reducible refine bel_trans ?_ (by assumption)))); done)
      have q0 : (f_SecretOf l by_ == 0) = false := by simp [hz]
      have HZ : Hid (decide (f_SecretOf l by_ = 0) = false) := by show _ = _; simp [hz]
      clear hz
      go_wp2_with fail
      refine (C_spec_ValidDataG _ _ X (Ty.rd_below hb4 (Ty.ow_rd (Ty.ow_keep (by intro b hb'; have hb'' := (hfrx).2 b hb'; (try simp only [World.size_alloc, World.size_setCell, size_drewN, World.size_drew] at hb''); repeat (first | (with_reducible rfl) | (rw [Below.heap_setCell _ _ _ _ (by (try dsimp only); omega)]) | (rw [Below.heap_alloc _ _ _ (by (try simp only [World.size_alloc, World.size_setCell]); omega)]))) howx)))).mono ?_
      rintro e w5 ⟨rfl, hb5⟩
      have hz5 := hb5.size
      have hx5 : Below WX.heap.size WX w5 := bel_trans hx4 hb5
      have hw5 : Below w.heap.size w w5 := bel_trans hvb hx5
      clear kR_4_0 fR_4_0 kR_4_1 fR_4_1 kR_4_2 fR_4_2 kR_4_3 fR_4_3 kR_4_4 fR_4_4 kX_4_0 fX_4_0 kX_4_1 fX_4_1 kX_4_2 fX_4_2 kX_4_3 fX_4_3 kX_4_4 fX_4_4
      obtain ⟨hK5, hN5, hR5⟩ := HB.out _ (hx5)
      have hX5 : Blk w5 (w1.heap.size) 34 #[.slice Ad0 (List.length X.1) cd0, .slice Ad1 (List.length X.2.1) cd1, .slice Ad2 (List.length X.2.2.1) cd2, .int .i64 X.2.2.2.1, .int .i64 X.2.2.2.2] := hX4.below hb5 (hX4.lt)
      have kR_5_0 : w5.cell? ⟨w.heap.size + 1 + 1, 0, none⟩ = some (.slice none 0 0) := hR5.cell 0
      have fR_5_0 : w5.frozen? ⟨w.heap.size + 1 + 1, 0, none⟩ = false := hR5.frozen 0
      have kR_5_1 : w5.cell? ⟨w.heap.size + 1 + 1, 1, none⟩ = some (.slice none 0 0) := hR5.cell 1
      have fR_5_1 : w5.frozen? ⟨w.heap.size + 1 + 1, 1, none⟩ = false := hR5.frozen 1
      have kR_5_2 : w5.cell? ⟨w.heap.size + 1 + 1, 2, none⟩ = some (.slice none 0 0) := hR5.cell 2
      have fR_5_2 : w5.frozen? ⟨w.heap.size + 1 + 1, 2, none⟩ = false := hR5.frozen 2
      have kR_5_3 : w5.cell? ⟨w.heap.size + 1 + 1, 3, none⟩ = some (.int .i64 0) := hR5.cell 3
      have fR_5_3 : w5.frozen? ⟨w.heap.size + 1 + 1, 3, none⟩ = false := hR5.frozen 3
      have kR_5_4 : w5.cell? ⟨w.heap.size + 1 + 1, 4, none⟩ = some (.int .i64 0) := hR5.cell 4
      have fR_5_4 : w5.frozen? ⟨w.heap.size + 1 + 1, 4, none⟩ = false := hR5.frozen 4
      have zR_5 : w.heap.size + 1 + 1 < w5.heap.size := hR5.lt
      have kX_5_0 : w5.cell? ⟨w1.heap.size, 0, none⟩ = some (.slice Ad0 (List.length X.1) cd0) := hX5.cell 0
      have fX_5_0 : w5.frozen? ⟨w1.heap.size, 0, none⟩ = false := hX5.frozen 0
      have kX_5_1 : w5.cell? ⟨w1.heap.size, 1, none⟩ = some (.slice Ad1 (List.length X.2.1) cd1) := hX5.cell 1
      have fX_5_1 : w5.frozen? ⟨w1.heap.size, 1, none⟩ = false := hX5.frozen 1
      have kX_5_2 : w5.cell? ⟨w1.heap.size, 2, none⟩ = some (.slice Ad2 (List.length X.2.2.1) cd2) := hX5.cell 2
      have fX_5_2 : w5.frozen? ⟨w1.heap.size, 2, none⟩ = false := hX5.frozen 2
      have kX_5_3 : w5.cell? ⟨w1.heap.size, 3, none⟩ = some (.int .i64 X.2.2.2.1) := hX5.cell 3
      have fX_5_3 : w5.frozen? ⟨w1.heap.size, 3, none⟩ = false := hX5.frozen 3
      have kX_5_4 : w5.cell? ⟨w1.heap.size, 4, none⟩ = some (.int .i64 X.2.2.2.2) := hX5.cell 4
      have fX_5_4 : w5.frozen? ⟨w1.heap.size, 4, none⟩ = false := hX5.frozen 4
      have zX_5 : w1.heap.size < w5.heap.size := hX5.lt
      cases q1 : f_ValidData X
      · have HFF : Hid (F1 = false) := by show _ = _; rw [HF1.out, HZ.out, q1]; rfl
        clear q1
        go_wp2
        refine bodyPost_ret (v := .tuple #[.agg #[.slice none 0 0, .slice none 0 0, .slice none 0 0, .int .i64 0, .int .i64 0], .bool false]) (by simp [results, Tryz.results36, go_sem, kR_5_0, fR_5_0, kR_5_1, fR_5_1, kR_5_2, fR_5_2, kR_5_3, fR_5_3, kR_5_4, fR_5_4, kX_5_0, fX_5_0, kX_5_1, fX_5_1, kX_5_2, fX_5_2, kX_5_3, fX_5_3, kX_5_4, fX_5_4, zR_5, zX_5]) rfl ?_
        rw [HNO.out HFF.out, HFF.out]
        refine viaP (p := Below w.heap.size w _) ?_ (fun hb => ⟨_, rfl, (DataR.zero _ _).mono hb.size (Nat.le_refl _) (Nat.le_refl _), hb⟩)
        ((repeat' (first | (with_reducible exact Below.refl _ _) | (with_reducible assumption) | (with_reducible refine bel_set ?_ (by (try dsimp only); omega) _) | (with_reducible refine bel_alloc ?_ _) | (with_reducible refine bel_drewN ?_ _) | (with_reducible refine bel_drew ?_) | (with_reducible refine bel_trans ?_ (by assumption)))); done)
      · have HFF : Hid (F1 = true) := by show _ = _; rw [HF1.out, HZ.out, q1]; rfl
        clear q1
        go_wp2
        refine bodyPost_ret (v := .tuple #[.agg #[.slice Ad0 (List.length X.1) cd0, .slice Ad1 (List.length X.2.1) cd1, .slice Ad2 (List.length X.2.2.1) cd2, .int .i64 X.2.2.2.1, .int .i64 X.2.2.2.2], .bool true]) (by simp [results, Tryz.results36, go_sem, kR_5_0, fR_5_0, kR_5_1, fR_5_1, kR_5_2, fR_5_2, kR_5_3, fR_5_3, kR_5_4, fR_5_4, kX_5_0, fX_5_0, kX_5_1, fX_5_1, kX_5_2, fX_5_2, kX_5_3, fX_5_3, kX_5_4, fX_5_4, zR_5, zX_5]) rfl ?_
        rw [HYES.out HFF.out, HFF.out]
        refine viaP (p := Below w.heap.size w _) ?_ (fun hb => ⟨_, rfl, DataR.mono (lo := LO) (hi := w2.heap.size) ?_ ?_ ?_ (Nat.le_refl _), hb⟩)
        · ((repeat' (first | (with_reducible exact Below.refl _ _) | (with_reducible assumption) | (with_reducible refine bel_set ?_ (by (try dsimp only); omega) _) | (with_reducible refine bel_alloc ?_ _) | (with_reducible refine bel_drewN ?_ _) | (with_reducible refine bel_drew ?_) | (with_reducible refine bel_trans ?_ (by assumption)))); done)
        · have hLO2 := HLO.out
          clear HB HS HLO HNO HYES HF1
          exact (by repeat' (first | (with_reducible exact HDX.out) | (with_reducible refine DataR.set ?_ (.inl (by (try dsimp only); omega)) _) | (with_reducible refine DataR.set ?_ (.inr (by (try dsimp only); omega)) _) | (with_reducible refine DataR.alloc ?_ _) | (with_reducible refine DataR.drewN ?_ _) | (with_reducible refine DataR.drew ?_) | (with_reducible refine DataR.below ?_ hb5) | (with_reducible refine DataR.below ?_ hb4)))
        · have hLO2 := HLO.out
          omega
        · (try simp only [World.size_alloc, World.size_setCell, size_drewN, World.size_drew]); omega
  · go_simp
    refine hK.out _ _ ?_ (fun hHeld => ?_)
    · (try dsimp only)
      exact HS.out _ (by (repeat' (first | (with_reducible exact Below.refl _ _) | (with_reducible assumption) | (with_reducible refine bel_set ?_ (by (try dsimp only); omega) _) | (with_reducible refine bel_alloc ?_ _) | (with_reducible refine bel_drewN ?_ _) | (with_reducible refine bel_drew ?_) | (with_reducible refine bel_trans ?_ (by assumption)))); done)
    clear hK K
    try simp only [Act.put, List.setIfInBounds_toArray, List.set_cons_zero, List.set_cons_succ]
    refine wpAnyH_ready (rs := [2]) (by kernel_rfl) (by simp) ?_
    refine (AllReadyH.cons (opN rfl) (fun K hK => ?_) AllReadyH.nil)
    go_simp
    go_at_call 48
    refine (C_spec_SecretOf _ _ l _ by_ (Ty.rd_below (by (repeat' (first | (with_reducible exact Below.refl _ _) | (with_reducible assumption) | (with_reducible refine bel_set ?_ (by (try dsimp only); omega) _) | (with_reducible refine bel_alloc ?_ _) | (with_reducible refine bel_drewN ?_ _) | (with_reducible refine bel_drew ?_) | (with_reducible refine bel_trans ?_ (by assumption)))); done) (Ty.rd_below hvb h0)) (Ty.rd_below (by (repeat' (first | (with_reducible exact Below.refl _ _) | (with_reducible assumption) | (with_reducible refine bel_set ?_ (by (try dsimp only); omega) _) | (with_reducible refine bel_alloc ?_ _) | (with_reducible refine bel_drewN ?_ _) | (with_reducible refine bel_drew ?_) | (with_reducible refine bel_trans ?_ (by assumption)))); done) (Ty.rd_below hvb h1)) s0 s1).mono ?_
    rintro e w1 ⟨rfl, hb1⟩
    have hx1 : Below WX.heap.size WX w1 := (by (repeat' (first | (with_reducible exact Below.refl _ _) | (with_reducible assumption) | (with_reducible refine bel_set ?_ (by (try dsimp only); omega) _) | (with_reducible refine bel_alloc ?_ _) | (with_reducible refine bel_drewN ?_ _) | (with_reducible refine bel_drew ?_) | (with_reducible refine bel_trans ?_ (by assumption)))); done)
    refine hK.out _ _ ?_ (fun hHeld => ?_)
    · (try dsimp only)
      exact HS.out _ (by (repeat' (first | (with_reducible exact Below.refl _ _) | (with_reducible assumption) | (with_reducible refine bel_set ?_ (by (try dsimp only); omega) _) | (with_reducible refine bel_alloc ?_ _) | (with_reducible refine bel_drewN ?_ _) | (with_reducible refine bel_drew ?_) | (with_reducible refine bel_trans ?_ (by assumption)))); done)
    clear hK K
    try simp only [Act.put, List.setIfInBounds_toArray, List.set_cons_zero, List.set_cons_succ]
    refine wpAnyH_ready (rs := [8]) (by kernel_rfl) (by simp) ?_
    refine (AllReadyH.cons (opN rfl) (fun K hK => ?_) AllReadyH.nil)
    go_simp
    go_at_call 96
    refine (C_spec_SignDataR _ _ _ (swkD by_ n b till) (rd_Data_mk (x := swkD by_ n b till) (Ty.rd_below (by (repeat' (first | (with_reducible exact Below.refl _ _) | (with_reducible assumption) | (with_reducible refine bel_set ?_ (by (try dsimp only); omega) _) | (with_reducible refine bel_alloc ?_ _) | (with_reducible refine bel_drewN ?_ _) | (with_reducible refine bel_drew ?_) | (with_reducible refine bel_trans ?_ (by assumption)))); done) (Ty.rd_below hvb h2)) (Ty.rd_below (by (repeat' (first | (with_reducible exact Below.refl _ _) | (with_reducible assumption) | (with_reducible refine bel_set ?_ (by (try dsimp only); omega) _) | (with_reducible refine bel_alloc ?_ _) | (with_reducible refine bel_drewN ?_ _) | (with_reducible refine bel_drew ?_) | (with_reducible refine bel_trans ?_ (by assumption)))); done) (Ty.rd_below hvb h3)) (Ty.rd_below (by (repeat' (first | (with_reducible exact Below.refl _ _) | (with_reducible assumption) | (with_reducible refine bel_set ?_ (by (try dsimp only); omega) _) | (with_reducible refine bel_alloc ?_ _) | (with_reducible refine bel_drewN ?_ _) | (with_reducible refine bel_drew ?_) | (with_reducible refine bel_trans ?_ (by assumption)))); done) (Ty.rd_below hvb h1)) i4 (by show _ ≤ (0 : Int) ∧ (0 : Int) ≤ _; decide)) hsb hbk).mono ?_
    rw [← HX.out]
    rintro e w2 ⟨csx, rfl, hdx, hb2⟩; obtain ⟨fpx, howx, hfrx⟩ := hdx.ow
    obtain ⟨Ad0, cd0, Ad1, cd1, Ad2, cd2, rfl⟩ := ow_Data howx; obtain ⟨LO, hLO, hdx2⟩ : ∃ LO, LO = _ ∧ DataR 5 w2 LO w2.heap.size _ X := ⟨_, rfl, hdx⟩; (try simp only [World.size_alloc, World.size_drew, size_drewN] at hLO); have HDX := Lib.hid hdx2; have HLO := Lib.hid hLO; clear hdx hdx2 hLO
    have hx2 : Below WX.heap.size WX w2 := (by (repeat' (first | (with_reducible exact Below.refl _ _) | (with_reducible assumption) | (with_reducible refine bel_set ?_ (by (try dsimp only); omega) _) | (with_reducible refine bel_alloc ?_ _) | (with_reducible refine bel_drewN ?_ _) | (with_reducible refine bel_drew ?_) | (with_reducible refine bel_trans ?_ (by assumption)))); done)
    refine hK.out _ _ ?_ (fun hHeld => ?_)
    · (try dsimp only)
      exact HS.out _ (by (repeat' (first | (with_reducible exact Below.refl _ _) | (with_reducible assumption) | (with_reducible refine bel_set ?_ (by (try dsimp only); omega) _) | (with_reducible refine bel_alloc ?_ _) | (with_reducible refine bel_drewN ?_ _) | (with_reducible refine bel_drew ?_) | (with_reducible refine bel_trans ?_ (by assumption)))); done)
    clear hK K
    try simp only [Act.put, List.setIfInBounds_toArray, List.set_cons_zero, List.set_cons_succ]
    have hzs1 := hb1.size
    have hzs2 := hb2.size
    try simp only [World.size_alloc, World.size_drew, size_drewN] at hzs1 hzs2
    have hG2 : Blk w2 (WX.heap.size) 34 #[.slice none 0 0, .slice none 0 0, .slice none 0 0, .int .i64 0, .int .i64 0] := by
      first
        | exact (Blk.new (WX) _ _).below hb2 (by simp only [World.size_alloc, World.size_drew, size_drewN]; omega)
        | exact (Blk.drew (Blk.new (WX) _ _)).below hb2 (by simp only [World.size_alloc, World.size_drew, size_drewN]; omega)
        | exact ((Blk.drew (Blk.new (WX) _ _)).below hb1 (by simp only [World.size_alloc, World.size_drew, size_drewN]; omega)).below hb2 (by have := hb1.size; simp only [World.size_alloc, World.size_drew, size_drewN] at this; omega)
        | exact ((Blk.new (WX) _ _).below hb1 (by simp only [World.size_alloc, World.size_drew, size_drewN]; omega)).below hb2 (by have := hb1.size; simp only [World.size_alloc, World.size_drew, size_drewN] at this; omega)
    have kG_2_0 : w2.cell? ⟨WX.heap.size, 0, none⟩ = some (.slice none 0 0) := hG2.cell 0
    have fG_2_0 : w2.frozen? ⟨WX.heap.size, 0, none⟩ = false := hG2.frozen 0
    have kG_2_1 : w2.cell? ⟨WX.heap.size, 1, none⟩ = some (.slice none 0 0) := hG2.cell 1
    have fG_2_1 : w2.frozen? ⟨WX.heap.size, 1, none⟩ = false := hG2.frozen 1
    have kG_2_2 : w2.cell? ⟨WX.heap.size, 2, none⟩ = some (.slice none 0 0) := hG2.cell 2
    have fG_2_2 : w2.frozen? ⟨WX.heap.size, 2, none⟩ = false := hG2.frozen 2
    have kG_2_3 : w2.cell? ⟨WX.heap.size, 3, none⟩ = some (.int .i64 0) := hG2.cell 3
    have fG_2_3 : w2.frozen? ⟨WX.heap.size, 3, none⟩ = false := hG2.frozen 3
    have kG_2_4 : w2.cell? ⟨WX.heap.size, 4, none⟩ = some (.int .i64 0) := hG2.cell 4
    have fG_2_4 : w2.frozen? ⟨WX.heap.size, 4, none⟩ = false := hG2.frozen 4
    have zG_2 : WX.heap.size < w2.heap.size := hG2.lt
    refine wpAnyH_ready (rs := [10]) (by kernel_rfl) (by simp) ?_
    refine (AllReadyH.cons (opN rfl) (fun K hK => ?_) AllReadyH.nil)
    go_simp
    refine hK.out _ _ ?_ (fun hHeld => ?_)
    · (try dsimp only)
      exact HS.out _ (by (repeat' (first | (with_reducible exact Below.refl _ _) | (with_reducible assumption) | (with_reducible refine bel_set ?_ (by (try dsimp only); omega) _) | (with_reducible refine bel_alloc ?_ _) | (with_reducible refine bel_drewN ?_ _) | (with_reducible refine bel_drew ?_) | (with_reducible refine bel_trans ?_ (by assumption)))); done)
    clear hK K
    try simp only [Act.put, List.setIfInBounds_toArray, List.set_cons_zero, List.set_cons_succ]
    clear kG_2_0 fG_2_0 kG_2_1 fG_2_1 kG_2_2 fG_2_2 kG_2_3 fG_2_3 kG_2_4 fG_2_4
    refine wpAnyH_done (by kernel_rfl) ?_ _
    refine NoPanic.normal ?_
    go_wp2_with fail
    refine (C_spec_SecretOf _ _ l _ by_ (Ty.rd_below (by (repeat' (first | (with_reducible exact Below.refl _ _) | (with_reducible assumption) | (with_reducible refine bel_set ?_ (by (try dsimp only); omega) _) | (with_reducible refine bel_alloc ?_ _) | (with_reducible refine bel_drewN ?_ _) | (with_reducible refine bel_drew ?_) | (with_reducible refine bel_trans ?_ (by assumption)))); done) (Ty.rd_below hvb h0)) (Ty.rd_below (by (repeat' (first | (with_reducible exact Below.refl _ _) | (with_reducible assumption) | (with_reducible refine bel_set ?_ (by (try dsimp only); omega) _) | (with_reducible refine bel_alloc ?_ _) | (with_reducible refine bel_drewN ?_ _) | (with_reducible refine bel_drew ?_) | (with_reducible refine bel_trans ?_ (by assumption)))); done) (Ty.rd_below hvb h1)) s0 s1).mono ?_
    rintro e w4 ⟨rfl, hb4⟩
    have hz4 := hb4.size
    try simp only [World.size_alloc, World.size_setCell, World.size_drew, size_drewN] at hz4
    have hx4 : Below WX.heap.size WX w4 := (by (repeat' (first | (with_reducible exact Below.refl _ _) | (with_reducible assumption) | (with_reducible refine bel_set ?_ (by (try dsimp only); omega) _) | (with_reducible refine bel_alloc ?_ _) | (with_reducible refine bel_drewN ?_ _) | (with_reducible refine bel_drew ?_) | (with_reducible refine bel_trans ?_ (by assumption)))); done)
    have hw4 : Below w.heap.size w w4 := bel_trans hvb hx4
    have hX4 : Blk w4 (WX.heap.size) 34 #[.slice Ad0 (List.length X.1) cd0, .slice Ad1 (List.length X.2.1) cd1, .slice Ad2 (List.length X.2.2.1) cd2, .int .i64 X.2.2.2.1, .int .i64 X.2.2.2.2] := by
      refine Blk.below (w := _) (B := _) ?_ hb4 (by simp only [World.size_alloc, World.size_setCell, World.size_drew, size_drewN]; omega)
      exact ((((hG2.set_ 0 _).set_ 1 _).set_ 2 _).set_ 3 _).set_ 4 _
    obtain ⟨hK4, hN4, hR4⟩ := HB.out _ (hx4)
    have kR_4_0 : w4.cell? ⟨w.heap.size + 1 + 1, 0, none⟩ = some (.slice none 0 0) := hR4.cell 0
    have fR_4_0 : w4.frozen? ⟨w.heap.size + 1 + 1, 0, none⟩ = false := hR4.frozen 0
    have kR_4_1 : w4.cell? ⟨w.heap.size + 1 + 1, 1, none⟩ = some (.slice none 0 0) := hR4.cell 1
    have fR_4_1 : w4.frozen? ⟨w.heap.size + 1 + 1, 1, none⟩ = false := hR4.frozen 1
    have kR_4_2 : w4.cell? ⟨w.heap.size + 1 + 1, 2, none⟩ = some (.slice none 0 0) := hR4.cell 2
    have fR_4_2 : w4.frozen? ⟨w.heap.size + 1 + 1, 2, none⟩ = false := hR4.frozen 2
    have kR_4_3 : w4.cell? ⟨w.heap.size + 1 + 1, 3, none⟩ = some (.int .i64 0) := hR4.cell 3
    have fR_4_3 : w4.frozen? ⟨w.heap.size + 1 + 1, 3, none⟩ = false := hR4.frozen 3
    have kR_4_4 : w4.cell? ⟨w.heap.size + 1 + 1, 4, none⟩ = some (.int .i64 0) := hR4.cell 4
    have fR_4_4 : w4.frozen? ⟨w.heap.size + 1 + 1, 4, none⟩ = false := hR4.frozen 4
    have zR_4 : w.heap.size + 1 + 1 < w4.heap.size := hR4.lt
    have kX_4_0 : w4.cell? ⟨WX.heap.size, 0, none⟩ = some (.slice Ad0 (List.length X.1) cd0) := hX4.cell 0
    have fX_4_0 : w4.frozen? ⟨WX.heap.size, 0, none⟩ = false := hX4.frozen 0
    have kX_4_1 : w4.cell? ⟨WX.heap.size, 1, none⟩ = some (.slice Ad1 (List.length X.2.1) cd1) := hX4.cell 1
    have fX_4_1 : w4.frozen? ⟨WX.heap.size, 1, none⟩ = false := hX4.frozen 1
    have kX_4_2 : w4.cell? ⟨WX.heap.size, 2, none⟩ = some (.slice Ad2 (List.length X.2.2.1) cd2) := hX4.cell 2
    have fX_4_2 : w4.frozen? ⟨WX.heap.size, 2, none⟩ = false := hX4.frozen 2
    have kX_4_3 : w4.cell? ⟨WX.heap.size, 3, none⟩ = some (.int .i64 X.2.2.2.1) := hX4.cell 3
    have fX_4_3 : w4.frozen? ⟨WX.heap.size, 3, none⟩ = false := hX4.frozen 3
    have kX_4_4 : w4.cell? ⟨WX.heap.size, 4, none⟩ = some (.int .i64 X.2.2.2.2) := hX4.cell 4
    have fX_4_4 : w4.frozen? ⟨WX.heap.size, 4, none⟩ = false := hX4.frozen 4
    have zX_4 : WX.heap.size < w4.heap.size := hX4.lt
    by_cases hz : f_SecretOf l by_ = 0
    · have q0 : (f_SecretOf l by_ == 0) = true := by simp [hz]
      have HFF : Hid (F1 = false) := by show _ = _; rw [HF1.out, hz]; rfl
      clear hz
      go_wp2
      refine bodyPost_ret (v := .tuple #[.agg #[.slice none 0 0, .slice none 0 0, .slice none 0 0, .int .i64 0, .int .i64 0], .bool false]) (by simp [results, Tryz.results36, go_sem, kR_4_0, fR_4_0, kR_4_1, fR_4_1, kR_4_2, fR_4_2, kR_4_3, fR_4_3, kR_4_4, fR_4_4, kX_4_0, fX_4_0, kX_4_1, fX_4_1, kX_4_2, fX_4_2, kX_4_3, fX_4_3, kX_4_4, fX_4_4, zR_4, zX_4]) rfl ?_
      rw [HNO.out HFF.out, HFF.out]
      refine viaP (p := Below w.heap.size w _) ?_ (fun hb => ⟨_, rfl, (DataR.zero _ _).mono hb.size (Nat.le_refl _) (Nat.le_refl _), hb⟩)
      ((repeat' (first | (with_reducible exact Below.refl _ _) | (with_reducible assumption) | (with_reducible refine bel_set ?_ (by (try dsimp only); omega) _) | (with_reducible refine bel_alloc ?_ _) | (with_reducible refine bel_drewN ?_ _) | (with_reducible refine bel_drew ?_) | (with_reducible refine bel_trans ?_ (by assumption)))); done)
    have q0 : (f_SecretOf l by_ == 0) = false := by simp [hz]
    have HZ : Hid (decide (f_SecretOf l by_ = 0) = false) := by show _ = _; simp [hz]
    clear hz
    go_wp2_with fail
    refine (C_spec_ValidDataG _ _ X (Ty.rd_below hb4 (Ty.ow_rd (Ty.ow_keep (by intro b hb'; have hb'' := (hfrx).2 b hb'; (try simp only [World.size_alloc, World.size_setCell, size_drewN, World.size_drew] at hb''); repeat (first | (with_reducible rfl) | (rw [Below.heap_setCell _ _ _ _ (by (try dsimp only); omega)]) | (rw [Below.heap_alloc _ _ _ (by (try simp only [World.size_alloc, World.size_setCell]); omega)]))) howx)))).mono ?_
    rintro e w5 ⟨rfl, hb5⟩
    have hz5 := hb5.size
    have hx5 : Below WX.heap.size WX w5 := bel_trans hx4 hb5
    have hw5 : Below w.heap.size w w5 := bel_trans hvb hx5
    clear kR_4_0 fR_4_0 kR_4_1 fR_4_1 kR_4_2 fR_4_2 kR_4_3 fR_4_3 kR_4_4 fR_4_4 kX_4_0 fX_4_0 kX_4_1 fX_4_1 kX_4_2 fX_4_2 kX_4_3 fX_4_3 kX_4_4 fX_4_4
    obtain ⟨hK5, hN5, hR5⟩ := HB.out _ (hx5)
    have hX5 : Blk w5 (WX.heap.size) 34 #[.slice Ad0 (List.length X.1) cd0, .slice Ad1 (List.length X.2.1) cd1, .slice Ad2 (List.length X.2.2.1) cd2, .int .i64 X.2.2.2.1, .int .i64 X.2.2.2.2] := hX4.below hb5 (hX4.lt)
    have kR_5_0 : w5.cell? ⟨w.heap.size + 1 + 1, 0, none⟩ = some (.slice none 0 0) := hR5.cell 0
    have fR_5_0 : w5.frozen? ⟨w.heap.size + 1 + 1, 0, none⟩ = false := hR5.frozen 0
    have kR_5_1 : w5.cell? ⟨w.heap.size + 1 + 1, 1, none⟩ = some (.slice none 0 0) := hR5.cell 1
    have fR_5_1 : w5.frozen? ⟨w.heap.size + 1 + 1, 1, none⟩ = false := hR5.frozen 1
    have kR_5_2 : w5.cell? ⟨w.heap.size + 1 + 1, 2, none⟩ = some (.slice none 0 0) := hR5.cell 2
    have fR_5_2 : w5.frozen? ⟨w.heap.size + 1 + 1, 2, none⟩ = false := hR5.frozen 2
    have kR_5_3 : w5.cell? ⟨w.heap.size + 1 + 1, 3, none⟩ = some (.int .i64 0) := hR5.cell 3
    have fR_5_3 : w5.frozen? ⟨w.heap.size + 1 + 1, 3, none⟩ = false := hR5.frozen 3
    have kR_5_4 : w5.cell? ⟨w.heap.size + 1 + 1, 4, none⟩ = some (.int .i64 0) := hR5.cell 4
    have fR_5_4 : w5.frozen? ⟨w.heap.size + 1 + 1, 4, none⟩ = false := hR5.frozen 4
    have zR_5 : w.heap.size + 1 + 1 < w5.heap.size := hR5.lt
    have kX_5_0 : w5.cell? ⟨WX.heap.size, 0, none⟩ = some (.slice Ad0 (List.length X.1) cd0) := hX5.cell 0
    have fX_5_0 : w5.frozen? ⟨WX.heap.size, 0, none⟩ = false := hX5.frozen 0
    have kX_5_1 : w5.cell? ⟨WX.heap.size, 1, none⟩ = some (.slice Ad1 (List.length X.2.1) cd1) := hX5.cell 1
    have fX_5_1 : w5.frozen? ⟨WX.heap.size, 1, none⟩ = false := hX5.frozen 1
    have kX_5_2 : w5.cell? ⟨WX.heap.size, 2, none⟩ = some (.slice Ad2 (List.length X.2.2.1) cd2) := hX5.cell 2
    have fX_5_2 : w5.frozen? ⟨WX.heap.size, 2, none⟩ = false := hX5.frozen 2
    have kX_5_3 : w5.cell? ⟨WX.heap.size, 3, none⟩ = some (.int .i64 X.2.2.2.1) := hX5.cell 3
    have fX_5_3 : w5.frozen? ⟨WX.heap.size, 3, none⟩ = false := hX5.frozen 3
    have kX_5_4 : w5.cell? ⟨WX.heap.size, 4, none⟩ = some (.int .i64 X.2.2.2.2) := hX5.cell 4
    have fX_5_4 : w5.frozen? ⟨WX.heap.size, 4, none⟩ = false := hX5.frozen 4
    have zX_5 : WX.heap.size < w5.heap.size := hX5.lt
    cases q1 : f_ValidData X
    · have HFF : Hid (F1 = false) := by show _ = _; rw [HF1.out, HZ.out, q1]; rfl
      clear q1
      go_wp2
      refine bodyPost_ret (v := .tuple #[.agg #[.slice none 0 0, .slice none 0 0, .slice none 0 0, .int .i64 0, .int .i64 0], .bool false]) (by simp [results, Tryz.results36, go_sem, kR_5_0, fR_5_0, kR_5_1, fR_5_1, kR_5_2, fR_5_2, kR_5_3, fR_5_3, kR_5_4, fR_5_4, kX_5_0, fX_5_0, kX_5_1, fX_5_1, kX_5_2, fX_5_2, kX_5_3, fX_5_3, kX_5_4, fX_5_4, zR_5, zX_5]) rfl ?_
      rw [HNO.out HFF.out, HFF.out]
      refine viaP (p := Below w.heap.size w _) ?_ (fun hb => ⟨_, rfl, (DataR.zero _ _).mono hb.size (Nat.le_refl _) (Nat.le_refl _), hb⟩)
      ((repeat' (first | (with_reducible exact Below.refl _ _) | (with_reducible assumption) | (with_reducible refine bel_set ?_ (by (try dsimp only); omega) _) | (with_reducible refine bel_alloc ?_ _) | (with_reducible refine bel_drewN ?_ _) | (with_reducible refine bel_drew ?_) | (with_reducible refine bel_trans ?_ (by assumption)))); done)
    · have HFF : Hid (F1 = true) := by show _ = _; rw [HF1.out, HZ.out, q1]; rfl
      clear q1
      go_wp2
      refine bodyPost_ret (v := .tuple #[.agg #[.slice Ad0 (List.length X.1) cd0, .slice Ad1 (List.length X.2.1) cd1, .slice Ad2 (List.length X.2.2.1) cd2, .int .i64 X.2.2.2.1, .int .i64 X.2.2.2.2], .bool true]) (by simp [results, Tryz.results36, go_sem, kR_5_0, fR_5_0, kR_5_1, fR_5_1, kR_5_2, fR_5_2, kR_5_3, fR_5_3, kR_5_4, fR_5_4, kX_5_0, fX_5_0, kX_5_1, fX_5_1, kX_5_2, fX_5_2, kX_5_3, fX_5_3, kX_5_4, fX_5_4, zR_5, zX_5]) rfl ?_
      rw [HYES.out HFF.out, HFF.out]
      refine viaP (p := Below w.heap.size w _) ?_ (fun hb => ⟨_, rfl, DataR.mono (lo := LO) (hi := w2.heap.size) ?_ ?_ ?_ (Nat.le_refl _), hb⟩)
      · ((repeat' (first | (with_reducible exact Below.refl _ _) | (with_reducible assumption) | (with_reducible refine bel_set ?_ (by (try dsimp only); omega) _) | (with_reducible refine bel_alloc ?_ _) | (with_reducible refine bel_drewN ?_ _) | (with_reducible refine bel_drew ?_) | (with_reducible refine bel_trans ?_ (by assumption)))); done)
      · have hLO2 := HLO.out
        clear HB HS HLO HNO HYES HF1
        exact (by repeat' (first | (with_reducible exact HDX.out) | (with_reducible refine DataR.set ?_ (.inl (by (try dsimp only); omega)) _) | (with_reducible refine DataR.set ?_ (.inr (by (try dsimp only); omega)) _) | (with_reducible refine DataR.alloc ?_ _) | (with_reducible refine DataR.drewN ?_ _) | (with_reducible refine DataR.drew ?_) | (with_reducible refine DataR.below ?_ hb5) | (with_reducible refine DataR.below ?_ hb4)))
      · have hLO2 := HLO.out
        omega
      · (try simp only [World.size_alloc, World.size_setCell, size_drewN, World.size_drew]); omega
end Go.Proofs.YtldgbnlcnlfmeaaGreat

/- What draws hand back: data read in an area of the heap, and rows that may grow, elements read in areas. No program in sight. -/
namespace Go.Proofs.YtldgbnlcnlfmeaaGreat
open Go.RowKit
set_option linter.unusedVariables false
set_option linter.unusedSimpArgs false

theorem Ty.rd_ones {w : World} : ∀ {t : Ty} {cs : List Value} {x : t.D}, t.rd w cs x → ∀ u ∈ cs, u.oneCell' = true
  | .int, _, _, h => by rw [h.1]; intro u hu; simp at hu; subst hu; rfl
  | .byte, _, _, h => by rw [show _ = _ from h]; intro u hu; simp at hu; subst hu; rfl
  | .bool, _, _, h => by rw [show _ = _ from h]; intro u hu; simp at hu; subst hu; rfl
  | .str, _, _, h => by rw [h.1]; intro u hu; simp at hu; subst hu; rfl
  | .sl _, _, _, ⟨_, _, h, _⟩ => by rw [h]; intro u hu; simp at hu; subst hu; rfl
  | .pr a b, _, _, ⟨c1, c2, h, h1, h2⟩ => by
    rw [h]; intro u hu
    rcases List.mem_append.1 hu with hu | hu
    · exact Ty.rd_ones h1 u hu
    · exact Ty.rd_ones h2 u hu
theorem Ty.rd_any {w W : World} : ∀ {t : Ty} {cs : List Value} {x : t.D}, t.flat = true → t.rd w cs x → t.rd W cs x
  | .int, _, _, _, h => h
  | .byte, _, _, _, h => h
  | .bool, _, _, _, h => h
  | .str, _, _, _, h => h
  | .sl _, _, _, hf, _ => by simp [Ty.flat] at hf
  | .pr a b, _, _, hf, ⟨c1, c2, h, h1, h2⟩ => by
    simp only [Ty.flat, Bool.and_eq_true] at hf
    exact ⟨c1, c2, h, Ty.rd_any hf.1 h1, Ty.rd_any hf.2 h2⟩

/-- Read in every world that agrees on the blocks from lo to hi. -/
def RdI (t : Ty) (lo hi : Nat) (w : World) (cs : List Value) (x : t.D) : Prop := hi ≤ w.heap.size ∧ ∀ W : World, (∀ b, lo ≤ b → b < hi → W.heap[b]? = w.heap[b]?) → t.rd W cs x
section
variable {t : Ty} {lo hi : Nat} {w w' : World} {cs : List Value} {x : t.D}
theorem RdI.rd (h : RdI t lo hi w cs x) : t.rd w cs x := h.2 w (fun _ _ _ => rfl)
theorem RdI.mono {lo' hi' : Nat} (h : RdI t lo hi w cs x) (h1 : lo' ≤ lo) (h2 : hi ≤ hi') (h3 : hi' ≤ w.heap.size) : RdI t lo' hi' w cs x := ⟨h3, fun W hW => h.2 W (fun b hb hb' => hW b (by omega) (by omega))⟩
theorem RdI.keep (h : RdI t lo hi w cs x) (hs : w.heap.size ≤ w'.heap.size) (hk : ∀ b, lo ≤ b → b < hi → w'.heap[b]? = w.heap[b]?) : RdI t lo hi w' cs x := ⟨Nat.le_trans h.1 hs, fun W hW => h.2 W (fun b hb hb' => (hW b hb hb').trans (hk b hb hb'))⟩
theorem RdI.below (h : RdI t lo hi w cs x) (hb : Below w.heap.size w w') : RdI t lo hi w' cs x := h.keep hb.size (fun b _ h2 => hb.block b (by have := h.1; omega))
theorem RdI.alloc (h : RdI t lo hi w cs x) (o : Obj) : RdI t lo hi (w.alloc o) cs x := h.below (bel_alloc (Below.refl _ _) o)
theorem RdI.drew (h : RdI t lo hi w cs x) : RdI t lo hi w.drew cs x := h.below (bel_drew (Below.refl _ _))
theorem RdI.drewN (h : RdI t lo hi w cs x) (n : Nat) : RdI t lo hi (w.drewN n) cs x := h.below (bel_drewN (Below.refl _ _) n)
theorem RdI.dr {B : Nat} (h : RdI t lo hi w cs x) (hd : Dr B w w') (hB : B < lo) : RdI t lo hi w' cs x := h.keep hd.size (fun b h1 h2 => hd.block (by have := h.1; omega) (by omega))
theorem RdI.set (h : RdI t lo hi w cs x) {p : Addr} (hp : p.block < lo ∨ hi ≤ p.block) (u : Value) : RdI t lo hi (w.setCell p u) cs x := h.keep (by rw [World.size_setCell]; exact Nat.le_refl _) (fun b h1 h2 => Below.heap_setCell _ _ _ _ (by omega))
theorem RdI.grown {row : Option Nat} (h : RdI t lo hi w cs x) (hg : w.grownBy w' row) (hr : ∀ g, row = some g → g < lo ∨ hi ≤ g) : RdI t lo hi w' cs x := h.keep hg.size (fun b h1 h2 => hg.block b (by have := h.1; omega) (fun e => by have := hr b e.symm; omega))
theorem RdI.hide {B : Nat} (h : RdI t lo hi w cs x) (hB : B < lo) : t.rd (hide B w) cs x := h.2 _ (fun b h1 _ => hide_other (by omega) w)
theorem RdI.of_ow {fp : List Nat} (h : t.ow w cs x fp) (hf : ∀ b ∈ fp, lo ≤ b ∧ b < hi) (hs : hi ≤ w.heap.size) : RdI t lo hi w cs x := ⟨hs, fun W hW => Ty.ow_rd (Ty.ow_keep (fun b hb => hW b (hf b hb).1 (hf b hb).2) h)⟩
theorem RdI.of_owF {fp : List Nat} (h : t.ow w cs x fp) (hf : FrI lo hi fp) (hs : hi ≤ w.heap.size) : RdI t lo hi w cs x := RdI.of_ow h hf.2 hs
theorem RdI.flat (hf : t.flat = true) (h : t.rd w cs x) (hs : hi ≤ w.heap.size) : RdI t lo hi w cs x := ⟨hs, fun W _ => Ty.rd_any hf h⟩
end
theorem RdI.pr {a b : Ty} {lo hi : Nat} {w : World} {c1 c2 : List Value} {x : a.D} {y : b.D} (h1 : RdI a lo hi w c1 x) (h2 : RdI b lo hi w c2 y) : RdI (.pr a b) lo hi w (c1 ++ c2) (x, y) := ⟨h1.1, fun W hW => ⟨c1, c2, rfl, h1.2 W hW, h2.2 W hW⟩⟩
theorem RdI.fst {a b : Ty} {lo hi : Nat} {w : World} {cs : List Value} {x : a.D × b.D} (h : RdI (.pr a b) lo hi w cs x) : RdI a lo hi w (cs.take a.sz) x.1 := ⟨h.1, fun W hW => by
  obtain ⟨c1, c2, rfl, h1, h2⟩ := h.2 W hW
  rw [← Ty.rd_len h1, List.take_left' rfl]; exact h1⟩
theorem RdI.snd {a b : Ty} {lo hi : Nat} {w : World} {cs : List Value} {x : a.D × b.D} (h : RdI (.pr a b) lo hi w cs x) : RdI b lo hi w (cs.drop a.sz) x.2 := ⟨h.1, fun W hW => by
  obtain ⟨c1, c2, rfl, h1, h2⟩ := h.2 W hW
  rw [← Ty.rd_len h1, List.drop_left' rfl]; exact h2⟩
theorem RdI.int {lo hi : Nat} {w : World} {n : Int} (h : -9223372036854775808 ≤ n ∧ n ≤ 9223372036854775807) (hs : hi ≤ w.heap.size) : RdI .int lo hi w [.int .i64 n] n := ⟨hs, fun _ _ => ⟨rfl, h⟩⟩
theorem RdI.nil (e : Ty) {lo hi : Nat} {w : World} (A : Option Addr) (hs : hi ≤ w.heap.size) : RdI (.sl e) lo hi w [.slice A 0 0] [] := ⟨hs, fun _ _ => ⟨A, 0, rfl, Nat.le_refl _, ⟨Nat.zero_le _, fun _ => rfl⟩, by simp, fun h => absurd h (by simp)⟩⟩

/-- A row that may grow: its own block and the blocks of its elements lie from lo on, none of them in ex. -/
def GRow (e : Ty) (lo : Nat) (ex : List Nat) (w : World) (te : TypeId) (v : Value) (x : List e.D) : Prop :=
  ∃ (P : Nat → Prop) (css : Nat → List Value), (∀ b, P b → lo ≤ b ∧ b < w.heap.size ∧ b ∉ ex) ∧ w.ownsRow lo te e.sz v x.length ((List.range x.length).flatMap css) ∧
    (∀ i (h : i < x.length), (css i).length = e.sz ∧ ∀ W : World, (∀ b, P b → W.heap[b]? = w.heap[b]?) → e.rd W (css i) x[i]) ∧
    (∀ g, v.ownBlock = some g → ¬ P g ∧ g ∉ ex)
section
variable {e : Ty} {lo : Nat} {ex : List Nat} {w w' : World} {te : TypeId} {v : Value} {x : List e.D}
theorem GRow.block (h : GRow e lo ex w te v x) : ∀ g, v.ownBlock = some g → lo ≤ g ∧ g < w.heap.size ∧ g ∉ ex := by
  obtain ⟨P, css, h0, h1, h2, h3⟩ := h
  exact fun g hg => ⟨(h1.lt g hg).1, (h1.lt g hg).2, (h3 g hg).2⟩
theorem GRow.keep (h : GRow e lo ex w te v x) (hs : w.heap.size ≤ w'.heap.size) (hk : ∀ b, lo ≤ b → b < w.heap.size → b ∉ ex → w'.heap[b]? = w.heap[b]?) : GRow e lo ex w' te v x := by
  have hbl := h.block
  obtain ⟨P, css, h0, h1, h2, h3⟩ := h
  refine ⟨P, css, fun b hb => ⟨(h0 b hb).1, Nat.lt_of_lt_of_le (h0 b hb).2.1 hs, (h0 b hb).2.2⟩, ⟨h1.1, ?_⟩, fun i hi => ⟨(h2 i hi).1, fun W hW => (h2 i hi).2 W (fun b hb => (hW b hb).trans (hk b (h0 b hb).1 (h0 b hb).2.1 (h0 b hb).2.2))⟩, h3⟩
  rcases h1.2 with hn | ⟨g, cap, cur, rfl, hbg, hgg, rest⟩
  · exact .inl hn
  · have := hbl g rfl
    exact .inr ⟨g, cap, cur, rfl, hbg, (hk g this.1 this.2.1 this.2.2).trans hgg, rest⟩
theorem GRow.below (h : GRow e lo ex w te v x) (hb : Below w.heap.size w w') : GRow e lo ex w' te v x := h.keep hb.size (fun b _ h2 _ => hb.block b h2)
theorem GRow.alloc (h : GRow e lo ex w te v x) (o : Obj) : GRow e lo ex (w.alloc o) te v x := h.below (bel_alloc (Below.refl _ _) o)
theorem GRow.drew (h : GRow e lo ex w te v x) : GRow e lo ex w.drew te v x := h.below (bel_drew (Below.refl _ _))
theorem GRow.drewN (h : GRow e lo ex w te v x) (n : Nat) : GRow e lo ex (w.drewN n) te v x := h.below (bel_drewN (Below.refl _ _) n)
theorem GRow.dr {B : Nat} (h : GRow e lo ex w te v x) (hd : Dr B w w') (hB : B < lo) : GRow e lo ex w' te v x := h.keep hd.size (fun b h1 h2 _ => hd.block h2 (by omega))
theorem GRow.set (h : GRow e lo ex w te v x) {p : Addr} (hp : p.block < lo ∨ p.block ∈ ex) (u : Value) : GRow e lo ex (w.setCell p u) te v x := h.keep (by rw [World.size_setCell]; exact Nat.le_refl _) (fun b h1 h2 h3 => Below.heap_setCell _ _ _ _ (fun e => by rcases hp with hp | hp; omega; rw [e] at h3; exact h3 hp))
theorem GRow.grown {row : Option Nat} (h : GRow e lo ex w te v x) (hg : w.grownBy w' row) (hr : ∀ g, row = some g → g < lo ∨ g ∈ ex) : GRow e lo ex w' te v x := h.keep hg.size (fun b h1 h2 h3 => hg.block b h2 (fun e => by rcases hr b e.symm with h | h; omega; exact h3 h))
theorem GRow.mono {lo' : Nat} (h : GRow e lo ex w te v x) (hl : lo' ≤ lo) : GRow e lo' ex w te v x := by
  obtain ⟨P, css, h0, h1, h2, h3⟩ := h
  refine ⟨P, css, fun b hb => ⟨Nat.le_trans hl (h0 b hb).1, (h0 b hb).2⟩, ⟨h1.1, ?_⟩, h2, h3⟩
  rcases h1.2 with hn | ⟨g, cap, cur, rfl, hbg, rest⟩
  · exact .inl hn
  · exact .inr ⟨g, cap, cur, rfl, Nat.le_trans hl hbg, rest⟩
theorem GRow.le (h : GRow e lo ex w te v x) : x.length ≤ maxLen := by
  obtain ⟨P, css, _, h, _⟩ := h
  rcases h.2 with ⟨_, hn⟩ | ⟨g, cap, cur, _, _, _, h1, h2, _⟩
  · rw [hn]; exact Nat.zero_le _
  · exact Nat.le_trans h1 h2
theorem GRow.form (h : GRow e lo ex w te v x) : ∃ A c, v = .slice A x.length c := by
  obtain ⟨P, css, _, h, _⟩ := h
  rcases h.2 with ⟨rfl, hn⟩ | ⟨g, cap, cur, rfl, _⟩
  · exact ⟨none, 0, by rw [hn]⟩
  · exact ⟨_, _, rfl⟩
theorem GRow.rdI (h : GRow e lo ex w te v x) : RdI (.sl e) lo w.heap.size w [v] x := by
  refine ⟨Nat.le_refl _, fun W hW => ?_⟩
  have hl := h.le
  unfold maxLen at hl
  obtain ⟨P, css, h0, h1, h2, h3⟩ := h
  rcases h1.2 with ⟨rfl, hn⟩ | ⟨g, cap, cur, rfl, hbg, hg, hnc, hcm, hcs, htake⟩
  · have hx : x = [] := List.eq_nil_of_length_eq_zero hn
    subst hx
    exact ⟨none, 0, rfl, by simp, ⟨by unfold maxLen; omega, fun _ => rfl⟩, by simp, fun h => absurd h (by simp)⟩
  · have hlt : g < w.heap.size := Blk.lt (t := te) (cs := cur) hg
    refine ⟨_, _, rfl, hnc, ⟨hcm, fun h => by cases h⟩, by omega, fun h0' => ⟨g, 0, rfl, fun i hi => ?_⟩⟩
    refine ⟨css i, (h2 i hi).1, fun j hj => ?_, (h2 i hi).2 W (fun b hb => hW b (h0 b hb).1 (h0 b hb).2.1)⟩
    have h5 : (i + 1) * e.sz ≤ x.length * e.sz := Nat.mul_le_mul_right _ hi
    rw [Nat.succ_mul] at h5
    rw [World.cell?_of_block (w := w) (a := ⟨g, 0 + i * e.sz + j, none⟩) (hW g hbg hlt), Nat.zero_add, h1.cellAt (i * e.sz + j) (by omega)]
    exact fmr_get css e.sz x.length (fun i hi => (h2 i hi).1) i j hi hj
theorem GRow.rd (h : GRow e lo ex w te v x) : (Ty.sl e).rd w [v] x := h.rdI.rd
theorem GRow.ofRowEx {F : Flat e} (hf : e.flat = true) (h : Row F w lo te v x) (hex : ∀ q, v.ownBlock = some q → q ∉ ex) : GRow e lo ex w te v x := by
  refine ⟨fun _ => False, fun i => if hi : i < x.length then [F.enc x[i]] else [], fun b hb => hb.elim, ?_, fun i hi => ⟨?_, fun W _ => ?_⟩, fun g hg => ⟨fun h => h, hex g hg⟩⟩
  · have : (List.range x.length).flatMap (fun i => if hi : i < x.length then [F.enc x[i]] else []) = x.map F.enc := by
      apply List.ext_getElem?
      intro i
      by_cases hi : i < x.length
      · have := fmr_get (fun i => if hi : i < x.length then [F.enc x[i]] else []) 1 x.length (fun i hi => by simp only [dif_pos hi]; rfl) i 0 hi (by omega)
        simp only [Nat.mul_one, Nat.add_zero, dif_pos hi] at this
        rw [this]; simp [hi]
      · rw [List.getElem?_eq_none (by rw [fmr_len _ 1 x.length (fun i hi => by simp only [dif_pos hi]; rfl)]; omega), List.getElem?_eq_none (by rw [List.length_map]; omega)]
    rw [this, F.sz]; exact h.1
  · simp only [dif_pos hi, F.sz]; rfl
  · simp only [dif_pos hi]; exact (F.rd _ _ _).2 ⟨rfl, h.2 _ (List.getElem_mem hi)⟩
end
theorem GRow.nil (e : Ty) (lo : Nat) (ex : List Nat) (w : World) (te : TypeId) : GRow e lo ex w te (.slice none 0 0) [] :=
  ⟨fun _ => False, fun _ => [], fun b hb => hb.elim, World.ownsRow_nil w lo te e.sz, fun i h => absurd h (by simp), fun g hg => by simp [Value.ownBlock] at hg⟩
theorem ownsRow_blk {w : World} {g lo n sz : Nat} {te : TypeId} {xs : List Value} (hb : Blk w g te xs.toArray) (hl : lo ≤ g) (hn : xs.length = n * sz) (hm : n ≤ maxLen) : w.ownsRow lo te sz (.slice (some ⟨g, 0, none⟩) n n) n xs :=
  ⟨hn, .inr ⟨g, n, xs.toArray, rfl, hl, hb, Nat.le_refl _, hm, by simpa using hn, by rw [← hn]; simp⟩⟩
/-- The literal of one element. -/
theorem GRow.lit1 {e : Ty} {lo l1 h1 g : Nat} {w : World} {te : TypeId} {ds : List Value} {d : e.D} (hb : Blk w g te ds.toArray) (h : RdI e l1 h1 w ds d) (hg : g < l1 ∨ h1 ≤ g) (hlo : lo ≤ g) (hl1 : lo ≤ l1) : GRow e lo [] w te (.slice (some ⟨g, 0, none⟩) 1 1) [d] :=
  ⟨fun b => l1 ≤ b ∧ b < h1, fun _ => ds, fun b hb' => ⟨by omega, by have := h.1; omega, by simp⟩, by simpa using ownsRow_blk (n := 1) (sz := e.sz) hb hlo (by rw [Nat.one_mul]; exact Ty.rd_len h.rd) (by unfold maxLen; omega),
    fun i hi => by
      obtain rfl : i = 0 := by simpa using hi
      exact ⟨Ty.rd_len h.rd, fun W hW => h.2 W (fun b h1 h2 => hW b ⟨h1, h2⟩)⟩,
    fun q hq => by
      have : g = q := by simpa [Value.ownBlock] using hq
      subst this
      exact ⟨fun h => by omega, by simp⟩⟩

/-- What an append takes in: elements read in areas from lo on, apart from ex and the row's own block. -/
def ASrc (e : Ty) (lo : Nat) (ex : List Nat) (w : World) (v u : Value) (y : List e.D) : Prop :=
  ∃ A c, ∃ Q : Nat → Prop, u = .slice A y.length c ∧ (∀ b, Q b → lo ≤ b ∧ b < w.heap.size ∧ b ∉ ex ∧ v.ownBlock ≠ some b) ∧
    (0 < y.length → ∃ b o, A = some ⟨b, o, none⟩ ∧ ∀ i (h : i < y.length), ∃ ds : List Value, ds.length = e.sz ∧ (∀ j, j < e.sz → w.cell? ⟨b, o + i * e.sz + j, none⟩ = ds[j]?) ∧ ∀ W : World, (∀ b, Q b → W.heap[b]? = w.heap[b]?) → e.rd W ds y[i])
theorem ASrc.flat {e : Ty} {lo : Nat} {ex : List Nat} {w : World} {v u : Value} {y : List e.D} (hf : e.flat = true) (h : (Ty.sl e).rd w [u] y) : ASrc e lo ex w v u y := by
  obtain ⟨A, c, hu, _, _, _, hc⟩ := h
  injection hu with hu _
  refine ⟨A, c, fun _ => False, hu, fun b hb => hb.elim, fun h0 => ?_⟩
  obtain ⟨b, o, hA, hel⟩ := hc h0
  exact ⟨b, o, hA, fun i hi => by obtain ⟨ds, h1, h2, h3⟩ := hel i hi; exact ⟨ds, h1, h2, fun W _ => Ty.rd_any hf h3⟩⟩
/-- One element, laid in a block. -/
theorem ASrc.lit {e : Ty} {lo l1 h1 g c : Nat} {ex : List Nat} {w : World} {te : TypeId} {v : Value} {ds : List Value} {d : e.D} (hb : Blk w g te ds.toArray) (h : RdI e l1 h1 w ds d) (hlo : lo ≤ l1) (hex : ∀ q ∈ ex, q < l1 ∨ h1 ≤ q) (hv : ∀ q, v.ownBlock = some q → q < l1 ∨ h1 ≤ q) :
    ASrc e lo ex w v (.slice (some ⟨g, 0, none⟩) 1 c) [d] := by
  refine ⟨_, c, fun b => l1 ≤ b ∧ b < h1, rfl, fun b hb' => ⟨by omega, by have := h.1; omega, fun hm => by have := hex b hm; omega, fun hq => by have := hv b hq; omega⟩, fun _ => ⟨g, 0, rfl, fun i hi => ?_⟩⟩
  obtain rfl : i = 0 := by simpa using hi
  exact ⟨ds, Ty.rd_len h.rd, fun j hj => by rw [Nat.zero_mul, Nat.add_zero, Nat.zero_add]; exact (hb.cell j).trans (by simp), fun W hW => h.2 W (fun b h1 h2 => hW b ⟨h1, h2⟩)⟩
theorem run_append_grow {P : Program} {w : World} {e : Ty} (lo : Nat) (ex : List Nat) (t ty te : TypeId) {z : Value} {by_ : Nat} (hinfo : (P.info? te).map (fun i => (i.zero, i.size, i.bytes)) = some (some z, e.sz, by_)) (hz1 : z.cells.size = e.sz) (ht : P.underlying t = some (.slice te))
    (v u : Value) (x y : List e.D) (hown : GRow e lo ex w te v x) (hy : ASrc e lo ex w v u y) (hex : ∀ q ∈ ex, q < w.heap.size) (hbytes : (x.length + y.length) * by_ ≤ 140737488355328) (hlen : x.length + y.length ≤ maxLen) (hbase : lo ≤ w.heap.size) :
    ∃ v' w', (Builtin.append_ #[t, t] ty #[v, u]).run P w = .ok v' w' ∧ GRow e lo ex w' te v' (x ++ y) ∧ w.grownBy w' v.ownBlock := by
  obtain ⟨i, hi, hzz⟩ := Option.map_eq_some_iff.1 hinfo
  simp only [Prod.mk.injEq] at hzz
  obtain ⟨hz, hsz, hby⟩ := hzz
  obtain ⟨P1, css, h0, h1, h2, h3⟩ := hown
  obtain ⟨A, c, Q, rfl, hQ, hel⟩ := hy
  by_cases hy0 : y.length = 0
  · have hy0 : y = [] := List.eq_nil_of_length_eq_zero hy0
    subst hy0
    refine ⟨v, w, run_append_zero lo t ty te i e.sz ht hi v _ _ h1 A c, ?_, World.grownBy.refl _ _⟩
    rw [List.append_nil]
    exact ⟨P1, css, h0, h1, h2, h3⟩
  · obtain ⟨b, o, rfl, hel2⟩ := hel (by omega)
    have hpos := Ty.sz_pos e
    have hds : ∃ dss : Nat → List Value, ∀ i (h : i < y.length), (dss i).length = e.sz ∧ (∀ j, j < e.sz → w.cell? ⟨b, o + i * e.sz + j, none⟩ = (dss i)[j]?) ∧ ∀ W : World, (∀ b, Q b → W.heap[b]? = w.heap[b]?) → e.rd W (dss i) y[i] := by
      refine ⟨fun i => if h : i < y.length then (hel2 i h).choose else [], fun i h => ?_⟩
      simp only [dif_pos h]
      exact (hel2 i h).choose_spec
    obtain ⟨dss, hd⟩ := hds
    have hl : ((List.range y.length).flatMap dss).length = y.length * e.sz := fmr_len dss e.sz y.length (fun i hi => (hd i hi).1)
    have hcells : ∀ j u, ((List.range y.length).flatMap dss)[j]? = some u → w.cell? ((⟨b, o, none⟩ : Addr).add j) = some u := by
      intro j u hj
      have hjl : j < y.length * e.sz := by rw [← hl]; exact (List.getElem?_eq_some_iff.1 hj).1
      have hdiv : j / e.sz < y.length := (Nat.div_lt_iff_lt_mul hpos).2 hjl
      have hmod : j % e.sz < e.sz := Nat.mod_lt _ hpos
      have hjj : j / e.sz * e.sz + j % e.sz = j := by rw [Nat.mul_comm]; exact Nat.div_add_mod j e.sz
      have h5 := (hd _ hdiv).2.1 _ hmod
      have h6 := fmr_get dss e.sz y.length (fun i hi => (hd i hi).1) _ _ hdiv hmod
      rw [hjj, hj] at h6
      rw [Addr.add_lit, show o + j = o + j / e.sz * e.sz + j % e.sz from by omega, h5, ← h6]
    have hones : ∀ u ∈ (List.range y.length).flatMap dss, u.oneCell' = true := by
      intro u hu
      obtain ⟨k, hk, hu⟩ := List.mem_flatMap.1 hu
      exact Ty.rd_ones ((hd k (List.mem_range.1 hk)).2.2 w (fun _ _ => rfl)) u hu
    obtain ⟨v', w', hr, g1, g2, _, g3⟩ := run_append_own_at (P := P) w lo t ty te i z e.sz by_ ht hi hz hsz hby hz1 hpos v x.length _ h1 ⟨b, o, none⟩ y.length c ((List.range y.length).flatMap dss) hl hcells hones hlen hbytes hbase
    refine ⟨v', w', hr, ⟨fun b => P1 b ∨ Q b, glue x.length css dss, ?_, ?_, ?_, ?_⟩, g2⟩
    · intro b hb
      have hs := g2.size
      rcases hb with hb | hb
      · have := h0 b hb; exact ⟨this.1, by omega, this.2.2⟩
      · have := hQ b hb; exact ⟨this.1, by omega, this.2.2.1⟩
    · rw [List.length_append, fmr_glue]; exact g1
    · intro k hk
      by_cases hkx : k < x.length
      · rw [glue_lt hkx, List.getElem_append_left hkx]
        refine ⟨(h2 k hkx).1, fun W hW => (h2 k hkx).2 W (fun b' hb' => (hW b' (.inl hb')).trans (g2.block b' (h0 b' hb').2.1 (fun e' => (h3 b' e'.symm).1 hb')))⟩
      · obtain ⟨m, rfl⟩ : ∃ m, k = x.length + m := ⟨k - x.length, by omega⟩
        have hm : m < y.length := by rw [List.length_append] at hk; omega
        rw [glue_ge, List.getElem_append_right (by omega)]
        simp only [Nat.add_sub_cancel_left]
        refine ⟨(hd m hm).1, fun W hW => (hd m hm).2.2 W (fun b' hb' => (hW b' (.inr hb')).trans (g2.block b' (hQ b' hb').2.1 (fun e' => (hQ b' hb').2.2.2 e'.symm)))⟩
    · intro g hg
      rcases g3 with g3 | g3
      · rw [g3] at hg
        exact ⟨fun hp => by
          rcases hp with hp | hp
          · exact (h3 g hg).1 hp
          · exact (hQ g hp).2.2.2 hg, (h3 g hg).2⟩
      · rw [g3] at hg
        have hg' : w.heap.size = g := by simpa using hg
        exact ⟨fun hp => by
          rcases hp with hp | hp
          · have := (h0 g hp).2.1; omega
          · have := (hQ g hp).2.1; omega, fun hm => by have := hex g hm; omega⟩
theorem wpList_append_grow {P : Program} {w : World} {ops : Array Oper} {rest : List Oper} {o : Oper} {a : Act} {Q : Exit → Act → World → Prop} (hgd : o.guard = none) (s xo : Operand) (t : TypeId)
    (ho : o.op = .call { callee := .builtin .append, args := #[s, xo], argTypes := #[t, t] }) {e : Ty} (lo : Nat) (ex : List Nat) (te : TypeId) {z : Value} {by_ : Nat}
    (hinfo : (P.info? te).map (fun i => (i.zero, i.size, i.bytes)) = some (some z, e.sz, by_)) (hz1 : z.cells.size = e.sz) (ht : P.underlying t = some (.slice te))
    (v u : Value) (x y : List e.D) (hs : a.eval s = v) (hx : a.eval xo = u) (hown : GRow e lo ex w te v x) (hy : ASrc e lo ex w v u y) (hex : ∀ q ∈ ex, q < w.heap.size) (hbytes : (x.length + y.length) * by_ ≤ 140737488355328) (hlen : x.length + y.length ≤ maxLen) (hbase : lo ≤ w.heap.size)
    (h : ∀ v' w', GRow e lo ex w' te v' (x ++ y) → w.grownBy w' v.ownBlock → wpList P ops Q rest (a.put o.dst v') w') : wpList P ops Q (o :: rest) a w := by
  obtain ⟨v', w', hr, h2, h3⟩ := run_append_grow (P := P) lo ex t o.type te hinfo hz1 ht v u x y hown hy hex hbytes hlen hbase
  refine wpList_plain hgd fun K hK => ?_
  unfold Oper.wp execOp
  simp only [ho, resolve, invoke, builtin, Sem.run_bind, Sem.run_pure, Result.andThen_ok, List.map_toArray, List.map_cons, List.map_nil, hs, hx, hr]
  exact hK _ _ (h v' w' h2 h3)
/-- A draw of a struct, of a slice, of a row that may grow. -/
def DrR (t : Ty) (w : World) (ok : t.D → Prop) (e : Ending) (w' : World) : Prop := ∃ cs x, e = .returned (.agg cs.toArray) ∧ RdI t w.heap.size w'.heap.size w' cs x ∧ ok x
theorem DrA.r {t : Ty} {w : World} {ok : t.D → Prop} {e : Ending} {w' : World} (h : DrA t w ok e w') : DrR t w ok e w' := by
  obtain ⟨cs, x, fp, h1, h2, h3, h4⟩ := h
  exact ⟨cs, x, h1, RdI.of_owF h2 h3 (Nat.le_refl _), h4⟩
end Go.Proofs.YtldgbnlcnlfmeaaGreat
