/- Texts of this claim, merged by a program: Swk Iss Pat. -/
import Derived.Test.YtldgbnlcnlfmeaaMo7
import Derived.Test.YtldgbnlcnlfmeaaMo5
import Derived.Test.YtldgbnlcnlfmeaaMo2
/- Data are signed with a key. Printed by gen24.py. -/
namespace Go.Proofs.Ytldgbnlcnlfmeaa
open Go.RowKit
set_option linter.unusedVariables false
set_option linter.unusedSimpArgs false

def swkD (by_ n : List (List UInt8)) (b : List UInt8) (till : Int) : tData.D := (n, b, by_, till, 0)
def swkX (l : List (Ty.D tKey)) (by_ n : List (List UInt8)) (b : List UInt8) (till : Int) : tData.D := f_SignData (f_SecretOf l by_) (swkD by_ n b till)
def zeroData : tData.D := ([], [], [], 0, 0)
def f1_SignWithKey (l : List (Ty.D tKey)) (by_ n : List (List UInt8)) (b : List UInt8) (till : Int) : Bool := !(decide (f_SecretOf l by_ = 0)) && f_ValidData (swkX l by_ n b till)
def f0_SignWithKey (l : List (Ty.D tKey)) (by_ n : List (List UInt8)) (b : List UInt8) (till : Int) : tData.D := if f1_SignWithKey l by_ n b till = true then swkX l by_ n b till else zeroData
theorem swk_no {l : List (Ty.D tKey)} {by_ n : List (List UInt8)} {b : List UInt8} {till : Int} (h : f1_SignWithKey l by_ n b till = false) : f0_SignWithKey l by_ n b till = zeroData := by unfold f0_SignWithKey; rw [h]; rfl
theorem swk_yes {l : List (Ty.D tKey)} {by_ n : List (List UInt8)} {b : List UInt8} {till : Int} (h : f1_SignWithKey l by_ n b till = true) : f0_SignWithKey l by_ n b till = swkX l by_ n b till := by unfold f0_SignWithKey; rw [h]; rfl
theorem swk_bulk (by_ n : List (List UInt8)) (b : List UInt8) (till : Int) : Ty.bulk tData (swkD by_ n b till) = Ty.bulk (.sl .str) n + (Ty.bulk (.sl .byte) b + Ty.bulk (.sl .str) by_) := by
  show Ty.bulk (.sl .str) n + (Ty.bulk (.sl .byte) b + (Ty.bulk (.sl .str) by_ + (0 + 0))) = _
  omega
theorem N_SignWithKey {l : List (Ty.D tKey)} {by_ n : List (List UInt8)} {b : List UInt8} {till : Int} (s0 : Ty.bulk (.sl tKey) l ≤ 1048576) (s1 : Ty.bulk (.sl .str) by_ ≤ 1048576) (s2 : Ty.bulk (.sl .str) n ≤ 1048576) (s3 : Ty.bulk (.sl .byte) b ≤ 1048576) : Ty.cntv tData (f0_SignWithKey l by_ n b till) ≤ 100000000000 := by
  refine cntv_bd (t := tData) (B := 4000000) ?_ (by decide)
  unfold f0_SignWithKey
  split
  · show Ty.bulk tData (swkD by_ n b till) ≤ _
    rw [swk_bulk]; omega
  · show 0 + (0 + (0 + (0 + 0))) ≤ 4000000; omega
theorem rd_Data_mk {w : World} {x : tData.D} {v0 v1 v2 : Value} (h0 : (Ty.sl .str).rd w [v0] x.1) (h1 : (Ty.sl .byte).rd w [v1] x.2.1) (h2 : (Ty.sl .str).rd w [v2] x.2.2.1) (b3 : -9223372036854775808 ≤ x.2.2.2.1 ∧ x.2.2.2.1 ≤ 9223372036854775807) (b4 : -9223372036854775808 ≤ x.2.2.2.2 ∧ x.2.2.2.2 ≤ 9223372036854775807) :
    tData.rd w [v0, v1, v2, .int .i64 x.2.2.2.1, .int .i64 x.2.2.2.2] x :=
  ⟨[v0], [v1, v2, .int .i64 x.2.2.2.1, .int .i64 x.2.2.2.2], rfl, h0, [v1], [v2, .int .i64 x.2.2.2.1, .int .i64 x.2.2.2.2], rfl, h1, [v2], [.int .i64 x.2.2.2.1, .int .i64 x.2.2.2.2], rfl, h2, [_], [_], rfl, ⟨rfl, b3⟩, ⟨rfl, b4⟩⟩
theorem ow_zeroData (w : World) : tData.ow w [.slice none 0 0, .slice none 0 0, .slice none 0 0, .int .i64 0, .int .i64 0] zeroData ([] ++ ([] ++ ([] ++ ([] ++ [])))) :=
  ow_Data_mk (x := zeroData) (rd_ow_nil w .str) (rd_ow_nil w .byte) (rd_ow_nil w .str) (by decide) (by decide)
theorem fr_zero (lo hi : Nat) : FrI lo hi ([] ++ ([] ++ ([] ++ ([] ++ [])))) := FrI.nil lo hi
set_option maxRecDepth 100000 in
set_option maxHeartbeats 4000000 in
theorem C_spec_SignWithKeyB (w : World) (v0 : Value) (l : List (Ty.D tKey)) (cs1 : List Value) (by_ : List (List UInt8)) (cs2 : List Value) (n : List (List UInt8)) (v3 : Value) (b : List UInt8) (till : Int) (h0 : (Ty.sl tKey).rd w [v0] l) (h1 : (Ty.sl .str).rd w cs1 by_) (h2 : (Ty.sl .str).rd w cs2 n) (h3 : (Ty.sl .byte).rd w [v3] b) (s0 : Ty.bulk (.sl tKey) l ≤ 1048576) (s1 : Ty.bulk (.sl .str) by_ ≤ 1048576) (s2 : Ty.bulk (.sl .str) n ≤ 1048576) (s3 : Ty.bulk (.sl .byte) b ≤ 1048576) (i4 : -9223372036854775808 ≤ till ∧ till ≤ 9223372036854775807) :
    Calls Try.prog 148 #[v0, .agg cs1.toArray, .agg cs2.toArray, v3, .int .i64 till] w (RetAgg2 w tData (f0_SignWithKey l by_ n b till) (.bool (f1_SignWithKey l by_ n b till))) := by
  obtain ⟨Ak, ck, rfl⟩ := Ty.rd_slv h1
  obtain ⟨An, cn, rfl⟩ := Ty.rd_slv h2
  obtain ⟨Ab, cb, rfl, _, _, _⟩ := Ty.rd_sl h3
  have hsb := secret_bd by_ h0
  have hbk : Ty.bulk tData (swkD by_ n b till) ≤ 4000000 := by rw [swk_bulk]; omega
  have hX : swkX l by_ n b till = f_SignData (f_SecretOf l by_) (swkD by_ n b till) := rfl
  have hF1 : f1_SignWithKey l by_ n b till = (!(decide (f_SecretOf l by_ = 0)) && f_ValidData (swkX l by_ n b till)) := rfl
  have HNO := Lib.hid (fun h => swk_no (l := l) (by_ := by_) (n := n) (b := b) (till := till) h)
  have HYES := Lib.hid (fun h => swk_yes (l := l) (by_ := by_) (n := n) (b := b) (till := till) h)
  generalize f0_SignWithKey l by_ n b till = F0 at HNO HYES ⊢
  generalize f1_SignWithKey l by_ n b till = F1 at hF1 HNO HYES ⊢
  generalize swkX l by_ n b till = X at hX hF1 HYES
  have HX := Lib.hid hX
  have HF1 := Lib.hid hF1
  clear hX hF1
  have hBK : Blk (((w.alloc (.cells #[.slice Ak by_.length ck] 27)).alloc (.cells #[.slice An n.length cn] 27)).alloc (.cells #[.slice none 0 0, .slice none 0 0, .slice none 0 0, .int .i64 0, .int .i64 0] 46)) (w.heap.size) 27 #[.slice Ak by_.length ck] := ((Blk.new w 27 #[.slice Ak by_.length ck]).alloc _).alloc _
  have hBN : Blk (((w.alloc (.cells #[.slice Ak by_.length ck] 27)).alloc (.cells #[.slice An n.length cn] 27)).alloc (.cells #[.slice none 0 0, .slice none 0 0, .slice none 0 0, .int .i64 0, .int .i64 0] 46)) (w.heap.size + 1) 27 #[.slice An n.length cn] := (show Blk ((w.alloc (.cells #[.slice Ak by_.length ck] 27)).alloc (.cells #[.slice An n.length cn] 27)) (w.heap.size + 1) 27 #[.slice An n.length cn] from by have := Blk.new (w.alloc (.cells #[.slice Ak by_.length ck] 27)) 27 #[.slice An n.length cn]; rwa [World.size_alloc] at this).alloc _
  have hBR : Blk (((w.alloc (.cells #[.slice Ak by_.length ck] 27)).alloc (.cells #[.slice An n.length cn] 27)).alloc (.cells #[.slice none 0 0, .slice none 0 0, .slice none 0 0, .int .i64 0, .int .i64 0] 46)) (w.heap.size + 1 + 1) 46 #[.slice none 0 0, .slice none 0 0, .slice none 0 0, .int .i64 0, .int .i64 0] := by have := Blk.new ((w.alloc (.cells #[.slice Ak by_.length ck] 27)).alloc (.cells #[.slice An n.length cn] 27)) 46 #[.slice none 0 0, .slice none 0 0, .slice none 0 0, .int .i64 0, .int .i64 0]; rwa [World.size_alloc, World.size_alloc] at this
  have hvb : Below w.heap.size w (((w.alloc (.cells #[.slice Ak by_.length ck] 27)).alloc (.cells #[.slice An n.length cn] 27)).alloc (.cells #[.slice none 0 0, .slice none 0 0, .slice none 0 0, .int .i64 0, .int .i64 0] 46)) := (by repeat' (first | (with_reducible exact Below.refl _ _) | (with_reducible assumption) | (with_reducible refine bel_set ?_ (by (try dsimp only); omega) _) | (with_reducible refine bel_alloc ?_ _) | (with_reducible refine bel_drewN ?_ _) | (with_reducible refine bel_drew ?_)))
  have zb : w.heap.size + 1 + 1 < (((w.alloc (.cells #[.slice Ak by_.length ck] 27)).alloc (.cells #[.slice An n.length cn] 27)).alloc (.cells #[.slice none 0 0, .slice none 0 0, .slice none 0 0, .int .i64 0, .int .i64 0] 46)).heap.size := by simp only [World.size_alloc]; omega
  go_enter Try.func148, Try.ntmps148
  go_wp2_with fail
  generalize (((w.alloc (.cells #[.slice Ak by_.length ck] 27)).alloc (.cells #[.slice An n.length cn] 27)).alloc (.cells #[.slice none 0 0, .slice none 0 0, .slice none 0 0, .int .i64 0, .int .i64 0] 46)) = WX at hBK hBN hBR hvb zb ⊢
  have HB : Hid (∀ W, Below WX.heap.size WX W → Blk W (w.heap.size) 27 #[.slice Ak by_.length ck] ∧ Blk W (w.heap.size + 1) 27 #[.slice An n.length cn] ∧ Blk W (w.heap.size + 1 + 1) 46 #[.slice none 0 0, .slice none 0 0, .slice none 0 0, .int .i64 0, .int .i64 0]) := fun W hW => ⟨hBK.below hW (by omega), hBN.below hW (by omega), hBR.below hW zb⟩
  clear hBK hBN hBR
  have HS : Hid (∀ W, Below WX.heap.size WX W → Below WX.heap.size WX W ∧ W.cell? ⟨w.heap.size, 0, none⟩ = some (.slice Ak by_.length ck) ∧ W.cell? ⟨w.heap.size + 1, 0, none⟩ = some (.slice An n.length cn)) := fun W hW => ⟨hW, (HB.out W hW).1.cell 0, (HB.out W hW).2.1.cell 0⟩
  have hv0 : Below WX.heap.size WX WX := Below.refl _ _
  have zb1 : w.heap.size < WX.heap.size := by omega
  have zb2 : w.heap.size + 1 < WX.heap.size := by omega
  refine wp_region_noPanic ?_
  refine wp_region_held_drew (S := (fun W => Below WX.heap.size WX W ∧ W.cell? ⟨w.heap.size, 0, none⟩ = some (.slice Ak by_.length ck) ∧ W.cell? ⟨w.heap.size + 1, 0, none⟩ = some (.slice An n.length cn))) (by kernel_rfl) ?_ (fun hHeld => ?_)
  · exact HS.out _ (by (repeat' (first | (with_reducible exact Below.refl _ _) | (with_reducible assumption) | (with_reducible refine bel_set ?_ (by (try dsimp only); omega) _) | (with_reducible refine bel_alloc ?_ _) | (with_reducible refine bel_drewN ?_ _) | (with_reducible refine bel_drew ?_) | (with_reducible refine bel_trans ?_ (by assumption)))); done)
  refine tk 0 (opN rfl) (by kernel_rfl) (by rfl) (by (intro w hSw; (try dsimp only at hSw); go_simp; first | done | with_reducible rfl)) (by assumption) ?_
  try simp only [Act.put, List.setIfInBounds_toArray, List.set_cons_zero, List.set_cons_succ]
  refine tk 1 (opN rfl) (by kernel_rfl) (by rfl) (by (intro w hSw; (try dsimp only at hSw); go_simp; first | done | with_reducible rfl)) (by assumption) ?_
  try simp only [Act.put, List.setIfInBounds_toArray, List.set_cons_zero, List.set_cons_succ]
  refine tk 3 (opN rfl) (by kernel_rfl) (by rfl) (by (intro w hSw; (try dsimp only at hSw); go_simp; first | done | with_reducible rfl)) (by assumption) ?_
  try simp only [Act.put, List.setIfInBounds_toArray, List.set_cons_zero, List.set_cons_succ]
  refine tk 4 (opN rfl) (by kernel_rfl) (by rfl) (by (intro w hSw; (try dsimp only at hSw); go_simp; first | done | with_reducible rfl)) (by assumption) ?_
  try simp only [Act.put, List.setIfInBounds_toArray, List.set_cons_zero, List.set_cons_succ]
  refine tk 5 (opN rfl) (by kernel_rfl) (by rfl) (by (intro w hSw; (try dsimp only at hSw); go_simp; first | done | with_reducible rfl)) (by assumption) ?_
  try simp only [Act.put, List.setIfInBounds_toArray, List.set_cons_zero, List.set_cons_succ]
  refine tk 6 (opN rfl) (by kernel_rfl) (by rfl) (by (intro w hSw; (try dsimp only at hSw); go_simp; first | done | with_reducible rfl)) (by assumption) ?_
  try simp only [Act.put, List.setIfInBounds_toArray, List.set_cons_zero, List.set_cons_succ]
  refine tk 7 (opN rfl) (by kernel_rfl) (by rfl) (by (intro w hSw; (try dsimp only at hSw); go_simp; first | done | with_reducible rfl)) (by assumption) ?_
  try simp only [Act.put, List.setIfInBounds_toArray, List.set_cons_zero, List.set_cons_succ]
  refine wpAnyH_ready (rs := [2, 9]) (by kernel_rfl) (by simp) ?_
  refine AllReadyH.cons (opN rfl) (fun K hK => ?_) (AllReadyH.cons (opN rfl) (fun K hK => ?_) AllReadyH.nil)
  · go_simp
    go_at_call 174
    refine (C_spec_SecretOf _ _ l _ by_ (Ty.rd_below (by (repeat' (first | (with_reducible exact Below.refl _ _) | (with_reducible assumption) | (with_reducible refine bel_set ?_ (by (try dsimp only); omega) _) | (with_reducible refine bel_alloc ?_ _) | (with_reducible refine bel_drewN ?_ _) | (with_reducible refine bel_drew ?_) | (with_reducible refine bel_trans ?_ (by assumption)))); done) (Ty.rd_below hvb h0)) (Ty.rd_below (by (repeat' (first | (with_reducible exact Below.refl _ _) | (with_reducible assumption) | (with_reducible refine bel_set ?_ (by (try dsimp only); omega) _) | (with_reducible refine bel_alloc ?_ _) | (with_reducible refine bel_drewN ?_ _) | (with_reducible refine bel_drew ?_) | (with_reducible refine bel_trans ?_ (by assumption)))); done) (Ty.rd_below hvb h1)) s0 s1).mono ?_
    rintro e w1 ⟨rfl, hb1⟩
    have hx1 : Below WX.heap.size WX w1 := (by (repeat' (first | (with_reducible exact Below.refl _ _) | (with_reducible assumption) | (with_reducible refine bel_set ?_ (by (try dsimp only); omega) _) | (with_reducible refine bel_alloc ?_ _) | (with_reducible refine bel_drewN ?_ _) | (with_reducible refine bel_drew ?_) | (with_reducible refine bel_trans ?_ (by assumption)))); done)
    refine hK.out _ _ ?_ (fun hHeld => ?_)
    · (try dsimp only)
      exact HS.out _ (by (repeat' (first | (with_reducible exact Below.refl _ _) | (with_reducible assumption) | (with_reducible refine bel_set ?_ (by (try dsimp only); omega) _) | (with_reducible refine bel_alloc ?_ _) | (with_reducible refine bel_drewN ?_ _) | (with_reducible refine bel_drew ?_) | (with_reducible refine bel_trans ?_ (by assumption)))); done)
    clear hK K
    try simp only [Act.put, List.setIfInBounds_toArray, List.set_cons_zero, List.set_cons_succ]
    refine wpAnyH_ready (rs := [8, 9]) (by kernel_rfl) (by simp) ?_
    refine AllReadyH.cons (opN rfl) (fun K hK => ?_) (AllReadyH.cons (opN rfl) (fun K hK => ?_) AllReadyH.nil)
    · go_simp
      go_at_call 56
      refine (C_spec_SignDataB _ _ _ (swkD by_ n b till) (rd_Data_mk (x := swkD by_ n b till) (Ty.rd_below (by (repeat' (first | (with_reducible exact Below.refl _ _) | (with_reducible assumption) | (with_reducible refine bel_set ?_ (by (try dsimp only); omega) _) | (with_reducible refine bel_alloc ?_ _) | (with_reducible refine bel_drewN ?_ _) | (with_reducible refine bel_drew ?_) | (with_reducible refine bel_trans ?_ (by assumption)))); done) (Ty.rd_below hvb h2)) (Ty.rd_below (by (repeat' (first | (with_reducible exact Below.refl _ _) | (with_reducible assumption) | (with_reducible refine bel_set ?_ (by (try dsimp only); omega) _) | (with_reducible refine bel_alloc ?_ _) | (with_reducible refine bel_drewN ?_ _) | (with_reducible refine bel_drew ?_) | (with_reducible refine bel_trans ?_ (by assumption)))); done) (Ty.rd_below hvb h3)) (Ty.rd_below (by (repeat' (first | (with_reducible exact Below.refl _ _) | (with_reducible assumption) | (with_reducible refine bel_set ?_ (by (try dsimp only); omega) _) | (with_reducible refine bel_alloc ?_ _) | (with_reducible refine bel_drewN ?_ _) | (with_reducible refine bel_drew ?_) | (with_reducible refine bel_trans ?_ (by assumption)))); done) (Ty.rd_below hvb h1)) i4 (by show _ ≤ (0 : Int) ∧ (0 : Int) ≤ _; decide)) hsb hbk).mono ?_
      rw [← HX.out]
      rintro e w2 ⟨csx, fpx, rfl, howx, hfrx, hb2⟩
      obtain ⟨Ad0, cd0, Ad1, cd1, Ad2, cd2, rfl⟩ := ow_Data howx
      have hx2 : Below WX.heap.size WX w2 := (by (repeat' (first | (with_reducible exact Below.refl _ _) | (with_reducible assumption) | (with_reducible refine bel_set ?_ (by (try dsimp only); omega) _) | (with_reducible refine bel_alloc ?_ _) | (with_reducible refine bel_drewN ?_ _) | (with_reducible refine bel_drew ?_) | (with_reducible refine bel_trans ?_ (by assumption)))); done)
      refine hK.out _ _ ?_ (fun hHeld => ?_)
      · (try dsimp only)
        exact HS.out _ (by (repeat' (first | (with_reducible exact Below.refl _ _) | (with_reducible assumption) | (with_reducible refine bel_set ?_ (by (try dsimp only); omega) _) | (with_reducible refine bel_alloc ?_ _) | (with_reducible refine bel_drewN ?_ _) | (with_reducible refine bel_drew ?_) | (with_reducible refine bel_trans ?_ (by assumption)))); done)
      clear hK K
      try simp only [Act.put, List.setIfInBounds_toArray, List.set_cons_zero, List.set_cons_succ]
      have hzs1 := hb1.size
      have hzs2 := hb2.size
      try simp only [World.size_alloc, World.size_drew, size_drewN] at hzs1 hzs2
      refine wpAnyH_ready (rs := [9]) (by kernel_rfl) (by simp) ?_
      refine (AllReadyH.cons (opN rfl) (fun K hK => ?_) AllReadyH.nil)
      go_simp
      refine hK.out _ _ ?_ (fun hHeld => ?_)
      · (try dsimp only)
        exact HS.out _ (by (repeat' (first | (with_reducible exact Below.refl _ _) | (with_reducible assumption) | (with_reducible refine bel_set ?_ (by (try dsimp only); omega) _) | (with_reducible refine bel_alloc ?_ _) | (with_reducible refine bel_drewN ?_ _) | (with_reducible refine bel_drew ?_) | (with_reducible refine bel_trans ?_ (by assumption)))); done)
      clear hK K
      try simp only [Act.put, List.setIfInBounds_toArray, List.set_cons_zero, List.set_cons_succ]
      refine wpAnyH_ready (rs := [10]) (by kernel_rfl) (by simp) ?_
      refine (AllReadyH.cons (opN rfl) (fun K hK => ?_) AllReadyH.nil)
      go_simp
      refine hK.out _ _ ?_ (fun hHeld => ?_)
      · (try dsimp only)
        exact HS.out _ (by (repeat' (first | (with_reducible exact Below.refl _ _) | (with_reducible assumption) | (with_reducible refine bel_set ?_ (by (try dsimp only); omega) _) | (with_reducible refine bel_alloc ?_ _) | (with_reducible refine bel_drewN ?_ _) | (with_reducible refine bel_drew ?_) | (with_reducible refine bel_trans ?_ (by assumption)))); done)
      clear hK K
      try simp only [Act.put, List.setIfInBounds_toArray, List.set_cons_zero, List.set_cons_succ]
      refine wpAnyH_done (by kernel_rfl) ?_ _
      refine NoPanic.normal ?_
      go_wp2_with fail
      refine (C_spec_SecretOf _ _ l _ by_ (Ty.rd_below (by (repeat' (first | (with_reducible exact Below.refl _ _) | (with_reducible assumption) | (with_reducible refine bel_set ?_ (by (try dsimp only); omega) _) | (with_reducible refine bel_alloc ?_ _) | (with_reducible refine bel_drewN ?_ _) | (with_reducible refine bel_drew ?_) | (with_reducible refine bel_trans ?_ (by assumption)))); done) (Ty.rd_below hvb h0)) (Ty.rd_below (by (repeat' (first | (with_reducible exact Below.refl _ _) | (with_reducible assumption) | (with_reducible refine bel_set ?_ (by (try dsimp only); omega) _) | (with_reducible refine bel_alloc ?_ _) | (with_reducible refine bel_drewN ?_ _) | (with_reducible refine bel_drew ?_) | (with_reducible refine bel_trans ?_ (by assumption)))); done) (Ty.rd_below hvb h1)) s0 s1).mono ?_
      rintro e w4 ⟨rfl, hb4⟩
      have hz4 := hb4.size
      try simp only [World.size_alloc, World.size_setCell, World.size_drew, size_drewN] at hz4
      have hx4 : Below WX.heap.size WX w4 := (by (repeat' (first | (with_reducible exact Below.refl _ _) | (with_reducible assumption) | (with_reducible refine bel_set ?_ (by (try dsimp only); omega) _) | (with_reducible refine bel_alloc ?_ _) | (with_reducible refine bel_drewN ?_ _) | (with_reducible refine bel_drew ?_) | (with_reducible refine bel_trans ?_ (by assumption)))); done)
      have hw4 : Below w.heap.size w w4 := bel_trans hvb hx4
      have hX4 : Blk w4 (w2.heap.size) 46 #[.slice Ad0 (List.length X.1) cd0, .slice Ad1 (List.length X.2.1) cd1, .slice Ad2 (List.length X.2.2.1) cd2, .int .i64 X.2.2.2.1, .int .i64 X.2.2.2.2] := by
        refine Blk.below (w := _) (B := _) ?_ hb4 (by simp only [World.size_alloc, World.size_setCell, World.size_drew, size_drewN]; omega)
        exact Blk.new _ _ _
      obtain ⟨hK4, hN4, hR4⟩ := HB.out _ (hx4)
      have kR_4_0 : w4.cell? ⟨w.heap.size + 1 + 1, 0, none⟩ = some (.slice none 0 0) := hR4.cell 0
      have fR_4_0 : w4.frozen? ⟨w.heap.size + 1 + 1, 0, none⟩ = false := hR4.frozen 0
      have kR_4_1 : w4.cell? ⟨w.heap.size + 1 + 1, 1, none⟩ = some (.slice none 0 0) := hR4.cell 1
      have fR_4_1 : w4.frozen? ⟨w.heap.size + 1 + 1, 1, none⟩ = false := hR4.frozen 1
      have kR_4_2 : w4.cell? ⟨w.heap.size + 1 + 1, 2, none⟩ = some (.slice none 0 0) := hR4.cell 2
      have fR_4_2 : w4.frozen? ⟨w.heap.size + 1 + 1, 2, none⟩ = false := hR4.frozen 2
      have kR_4_3 : w4.cell? ⟨w.heap.size + 1 + 1, 3, none⟩ = some (.int .i64 0) := hR4.cell 3
      have fR_4_3 : w4.frozen? ⟨w.heap.size + 1 + 1, 3, none⟩ = false := hR4.frozen 3
      have kR_4_4 : w4.cell? ⟨w.heap.size + 1 + 1, 4, none⟩ = some (.int .i64 0) := hR4.cell 4
      have fR_4_4 : w4.frozen? ⟨w.heap.size + 1 + 1, 4, none⟩ = false := hR4.frozen 4
      have zR_4 : w.heap.size + 1 + 1 < w4.heap.size := hR4.lt
      have kX_4_0 : w4.cell? ⟨w2.heap.size, 0, none⟩ = some (.slice Ad0 (List.length X.1) cd0) := hX4.cell 0
      have fX_4_0 : w4.frozen? ⟨w2.heap.size, 0, none⟩ = false := hX4.frozen 0
      have kX_4_1 : w4.cell? ⟨w2.heap.size, 1, none⟩ = some (.slice Ad1 (List.length X.2.1) cd1) := hX4.cell 1
      have fX_4_1 : w4.frozen? ⟨w2.heap.size, 1, none⟩ = false := hX4.frozen 1
      have kX_4_2 : w4.cell? ⟨w2.heap.size, 2, none⟩ = some (.slice Ad2 (List.length X.2.2.1) cd2) := hX4.cell 2
      have fX_4_2 : w4.frozen? ⟨w2.heap.size, 2, none⟩ = false := hX4.frozen 2
      have kX_4_3 : w4.cell? ⟨w2.heap.size, 3, none⟩ = some (.int .i64 X.2.2.2.1) := hX4.cell 3
      have fX_4_3 : w4.frozen? ⟨w2.heap.size, 3, none⟩ = false := hX4.frozen 3
      have kX_4_4 : w4.cell? ⟨w2.heap.size, 4, none⟩ = some (.int .i64 X.2.2.2.2) := hX4.cell 4
      have fX_4_4 : w4.frozen? ⟨w2.heap.size, 4, none⟩ = false := hX4.frozen 4
      have zX_4 : w2.heap.size < w4.heap.size := hX4.lt
      by_cases hz : f_SecretOf l by_ = 0
      · have q0 : (f_SecretOf l by_ == 0) = true := by simp [hz]
        have HFF : Hid (F1 = false) := by show _ = _; rw [HF1.out, hz]; rfl
        clear hz
        go_wp2
        refine bodyPost_ret (v := .tuple #[.agg #[.slice none 0 0, .slice none 0 0, .slice none 0 0, .int .i64 0, .int .i64 0], .bool false]) (by simp [results, Try.results148, go_sem, kR_4_0, fR_4_0, kR_4_1, fR_4_1, kR_4_2, fR_4_2, kR_4_3, fR_4_3, kR_4_4, fR_4_4, kX_4_0, fX_4_0, kX_4_1, fX_4_1, kX_4_2, fX_4_2, kX_4_3, fX_4_3, kX_4_4, fX_4_4, zR_4, zX_4]) rfl ?_
        rw [HNO.out HFF.out, HFF.out]
        exact ⟨_, _, rfl, ow_zeroData _, fr_zero _ _, (by (repeat' (first | (with_reducible exact Below.refl _ _) | (with_reducible assumption) | (with_reducible refine bel_set ?_ (by (try dsimp only); omega) _) | (with_reducible refine bel_alloc ?_ _) | (with_reducible refine bel_drewN ?_ _) | (with_reducible refine bel_drew ?_) | (with_reducible refine bel_trans ?_ (by assumption)))); done)⟩
      have q0 : (f_SecretOf l by_ == 0) = false := by simp [hz]
      have HZ : Hid (decide (f_SecretOf l by_ = 0) = false) := by show _ = _; simp [hz]
      clear hz
      go_wp2_with fail
      refine (C_spec_ValidDataG _ _ X (Ty.rd_below hb4 (Ty.ow_rd (Ty.ow_keep (by intro b hb'; have hb'' := (hfrx).2 b hb'; (try simp only [World.size_alloc, World.size_setCell, size_drewN, World.size_drew] at hb''); repeat (first | (with_reducible rfl) | (rw [Below.heap_setCell _ _ _ _ (by (try dsimp only); omega)]) | (rw [Below.heap_alloc _ _ _ (by (try simp only [World.size_alloc, World.size_setCell]); omega)]))) howx)))).mono ?_
      rintro e w5 ⟨rfl, hb5⟩
      have hz5 := hb5.size
      have hx5 : Below WX.heap.size WX w5 := bel_trans hx4 hb5
      have hw5 : Below w.heap.size w w5 := bel_trans hvb hx5
      clear kR_4_0 fR_4_0 kR_4_1 fR_4_1 kR_4_2 fR_4_2 kR_4_3 fR_4_3 kR_4_4 fR_4_4 kX_4_0 fX_4_0 kX_4_1 fX_4_1 kX_4_2 fX_4_2 kX_4_3 fX_4_3 kX_4_4 fX_4_4
      obtain ⟨hK5, hN5, hR5⟩ := HB.out _ (hx5)
      have hX5 : Blk w5 (w2.heap.size) 46 #[.slice Ad0 (List.length X.1) cd0, .slice Ad1 (List.length X.2.1) cd1, .slice Ad2 (List.length X.2.2.1) cd2, .int .i64 X.2.2.2.1, .int .i64 X.2.2.2.2] := hX4.below hb5 (hX4.lt)
      have kR_5_0 : w5.cell? ⟨w.heap.size + 1 + 1, 0, none⟩ = some (.slice none 0 0) := hR5.cell 0
      have fR_5_0 : w5.frozen? ⟨w.heap.size + 1 + 1, 0, none⟩ = false := hR5.frozen 0
      have kR_5_1 : w5.cell? ⟨w.heap.size + 1 + 1, 1, none⟩ = some (.slice none 0 0) := hR5.cell 1
      have fR_5_1 : w5.frozen? ⟨w.heap.size + 1 + 1, 1, none⟩ = false := hR5.frozen 1
      have kR_5_2 : w5.cell? ⟨w.heap.size + 1 + 1, 2, none⟩ = some (.slice none 0 0) := hR5.cell 2
      have fR_5_2 : w5.frozen? ⟨w.heap.size + 1 + 1, 2, none⟩ = false := hR5.frozen 2
      have kR_5_3 : w5.cell? ⟨w.heap.size + 1 + 1, 3, none⟩ = some (.int .i64 0) := hR5.cell 3
      have fR_5_3 : w5.frozen? ⟨w.heap.size + 1 + 1, 3, none⟩ = false := hR5.frozen 3
      have kR_5_4 : w5.cell? ⟨w.heap.size + 1 + 1, 4, none⟩ = some (.int .i64 0) := hR5.cell 4
      have fR_5_4 : w5.frozen? ⟨w.heap.size + 1 + 1, 4, none⟩ = false := hR5.frozen 4
      have zR_5 : w.heap.size + 1 + 1 < w5.heap.size := hR5.lt
      have kX_5_0 : w5.cell? ⟨w2.heap.size, 0, none⟩ = some (.slice Ad0 (List.length X.1) cd0) := hX5.cell 0
      have fX_5_0 : w5.frozen? ⟨w2.heap.size, 0, none⟩ = false := hX5.frozen 0
      have kX_5_1 : w5.cell? ⟨w2.heap.size, 1, none⟩ = some (.slice Ad1 (List.length X.2.1) cd1) := hX5.cell 1
      have fX_5_1 : w5.frozen? ⟨w2.heap.size, 1, none⟩ = false := hX5.frozen 1
      have kX_5_2 : w5.cell? ⟨w2.heap.size, 2, none⟩ = some (.slice Ad2 (List.length X.2.2.1) cd2) := hX5.cell 2
      have fX_5_2 : w5.frozen? ⟨w2.heap.size, 2, none⟩ = false := hX5.frozen 2
      have kX_5_3 : w5.cell? ⟨w2.heap.size, 3, none⟩ = some (.int .i64 X.2.2.2.1) := hX5.cell 3
      have fX_5_3 : w5.frozen? ⟨w2.heap.size, 3, none⟩ = false := hX5.frozen 3
      have kX_5_4 : w5.cell? ⟨w2.heap.size, 4, none⟩ = some (.int .i64 X.2.2.2.2) := hX5.cell 4
      have fX_5_4 : w5.frozen? ⟨w2.heap.size, 4, none⟩ = false := hX5.frozen 4
      have zX_5 : w2.heap.size < w5.heap.size := hX5.lt
      cases q1 : f_ValidData X
      · have HFF : Hid (F1 = false) := by show _ = _; rw [HF1.out, HZ.out, q1]; rfl
        clear q1
        go_wp2
        refine bodyPost_ret (v := .tuple #[.agg #[.slice none 0 0, .slice none 0 0, .slice none 0 0, .int .i64 0, .int .i64 0], .bool false]) (by simp [results, Try.results148, go_sem, kR_5_0, fR_5_0, kR_5_1, fR_5_1, kR_5_2, fR_5_2, kR_5_3, fR_5_3, kR_5_4, fR_5_4, kX_5_0, fX_5_0, kX_5_1, fX_5_1, kX_5_2, fX_5_2, kX_5_3, fX_5_3, kX_5_4, fX_5_4, zR_5, zX_5]) rfl ?_
        rw [HNO.out HFF.out, HFF.out]
        exact ⟨_, _, rfl, ow_zeroData _, fr_zero _ _, (by (repeat' (first | (with_reducible exact Below.refl _ _) | (with_reducible assumption) | (with_reducible refine bel_set ?_ (by (try dsimp only); omega) _) | (with_reducible refine bel_alloc ?_ _) | (with_reducible refine bel_drewN ?_ _) | (with_reducible refine bel_drew ?_) | (with_reducible refine bel_trans ?_ (by assumption)))); done)⟩
      · have HFF : Hid (F1 = true) := by show _ = _; rw [HF1.out, HZ.out, q1]; rfl
        clear q1
        go_wp2
        refine bodyPost_ret (v := .tuple #[.agg #[.slice Ad0 (List.length X.1) cd0, .slice Ad1 (List.length X.2.1) cd1, .slice Ad2 (List.length X.2.2.1) cd2, .int .i64 X.2.2.2.1, .int .i64 X.2.2.2.2], .bool true]) (by simp [results, Try.results148, go_sem, kR_5_0, fR_5_0, kR_5_1, fR_5_1, kR_5_2, fR_5_2, kR_5_3, fR_5_3, kR_5_4, fR_5_4, kX_5_0, fX_5_0, kX_5_1, fX_5_1, kX_5_2, fX_5_2, kX_5_3, fX_5_3, kX_5_4, fX_5_4, zR_5, zX_5]) rfl ?_
        rw [HYES.out HFF.out, HFF.out]
        exact ⟨_, fpx, rfl, Ty.ow_keep (by intro b hb'; have hb'' := (hfrx).2 b hb'; (try simp only [World.size_alloc, World.size_setCell, size_drewN, World.size_drew] at hb''); repeat (first | (with_reducible rfl) | (rw [Below.heap_setCell _ _ _ _ (by (try dsimp only); omega)]) | (rw [Below.heap_alloc _ _ _ (by (try simp only [World.size_alloc, World.size_setCell]); omega)]) | (rw [hb5.block _ (by (try simp only [World.size_alloc, World.size_setCell, size_drewN, World.size_drew]); omega)]) | (rw [hb4.block _ (by (try simp only [World.size_alloc, World.size_setCell, size_drewN, World.size_drew]); omega)]))) howx, hfrx.mono (by (try simp only [World.size_alloc, World.size_drew, size_drewN] at *); omega) (by (try simp only [World.size_alloc, World.size_setCell, size_drewN, World.size_drew]); omega), (by (repeat' (first | (with_reducible exact Below.refl _ _) | (with_reducible assumption) | (with_reducible refine bel_set ?_ (by (try dsimp only); omega) _) | (with_reducible refine bel_alloc ?_ _) | (with_reducible refine bel_drewN ?_ _) | (with_reducible refine bel_drew ?_) | (with_reducible refine bel_trans ?_ (by assumption)))); done)⟩
    · go_simp
      refine hK.out _ _ ?_ (fun hHeld => ?_)
      · (try dsimp only)
        exact HS.out _ (by (repeat' (first | (with_reducible exact Below.refl _ _) | (with_reducible assumption) | (with_reducible refine bel_set ?_ (by (try dsimp only); omega) _) | (with_reducible refine bel_alloc ?_ _) | (with_reducible refine bel_drewN ?_ _) | (with_reducible refine bel_drew ?_) | (with_reducible refine bel_trans ?_ (by assumption)))); done)
      clear hK K
      try simp only [Act.put, List.setIfInBounds_toArray, List.set_cons_zero, List.set_cons_succ]
      refine wpAnyH_ready (rs := [8]) (by kernel_rfl) (by simp) ?_
      refine (AllReadyH.cons (opN rfl) (fun K hK => ?_) AllReadyH.nil)
      go_simp
      go_at_call 56
      refine (C_spec_SignDataB _ _ _ (swkD by_ n b till) (rd_Data_mk (x := swkD by_ n b till) (Ty.rd_below (by (repeat' (first | (with_reducible exact Below.refl _ _) | (with_reducible assumption) | (with_reducible refine bel_set ?_ (by (try dsimp only); omega) _) | (with_reducible refine bel_alloc ?_ _) | (with_reducible refine bel_drewN ?_ _) | (with_reducible refine bel_drew ?_) | (with_reducible refine bel_trans ?_ (by assumption)))); done) (Ty.rd_below hvb h2)) (Ty.rd_below (by (repeat' (first | (with_reducible exact Below.refl _ _) | (with_reducible assumption) | (with_reducible refine bel_set ?_ (by (try dsimp only); omega) _) | (with_reducible refine bel_alloc ?_ _) | (with_reducible refine bel_drewN ?_ _) | (with_reducible refine bel_drew ?_) | (with_reducible refine bel_trans ?_ (by assumption)))); done) (Ty.rd_below hvb h3)) (Ty.rd_below (by (repeat' (first | (with_reducible exact Below.refl _ _) | (with_reducible assumption) | (with_reducible refine bel_set ?_ (by (try dsimp only); omega) _) | (with_reducible refine bel_alloc ?_ _) | (with_reducible refine bel_drewN ?_ _) | (with_reducible refine bel_drew ?_) | (with_reducible refine bel_trans ?_ (by assumption)))); done) (Ty.rd_below hvb h1)) i4 (by show _ ≤ (0 : Int) ∧ (0 : Int) ≤ _; decide)) hsb hbk).mono ?_
      rw [← HX.out]
      rintro e w2 ⟨csx, fpx, rfl, howx, hfrx, hb2⟩
      obtain ⟨Ad0, cd0, Ad1, cd1, Ad2, cd2, rfl⟩ := ow_Data howx
      have hx2 : Below WX.heap.size WX w2 := (by (repeat' (first | (with_reducible exact Below.refl _ _) | (with_reducible assumption) | (with_reducible refine bel_set ?_ (by (try dsimp only); omega) _) | (with_reducible refine bel_alloc ?_ _) | (with_reducible refine bel_drewN ?_ _) | (with_reducible refine bel_drew ?_) | (with_reducible refine bel_trans ?_ (by assumption)))); done)
      refine hK.out _ _ ?_ (fun hHeld => ?_)
      · (try dsimp only)
        exact HS.out _ (by (repeat' (first | (with_reducible exact Below.refl _ _) | (with_reducible assumption) | (with_reducible refine bel_set ?_ (by (try dsimp only); omega) _) | (with_reducible refine bel_alloc ?_ _) | (with_reducible refine bel_drewN ?_ _) | (with_reducible refine bel_drew ?_) | (with_reducible refine bel_trans ?_ (by assumption)))); done)
      clear hK K
      try simp only [Act.put, List.setIfInBounds_toArray, List.set_cons_zero, List.set_cons_succ]
      have hzs1 := hb1.size
      have hzs2 := hb2.size
      try simp only [World.size_alloc, World.size_drew, size_drewN] at hzs1 hzs2
      have hG2 : Blk w2 (w1.heap.size) 46 #[.slice none 0 0, .slice none 0 0, .slice none 0 0, .int .i64 0, .int .i64 0] := by
        first
          | exact (Blk.new (w1) _ _).below hb2 (by simp only [World.size_alloc, World.size_drew, size_drewN]; omega)
          | exact (Blk.drew (Blk.new (w1) _ _)).below hb2 (by simp only [World.size_alloc, World.size_drew, size_drewN]; omega)
          | exact ((Blk.drew (Blk.new (w1) _ _)).below hb1 (by simp only [World.size_alloc, World.size_drew, size_drewN]; omega)).below hb2 (by have := hb1.size; simp only [World.size_alloc, World.size_drew, size_drewN] at this; omega)
          | exact ((Blk.new (w1) _ _).below hb1 (by simp only [World.size_alloc, World.size_drew, size_drewN]; omega)).below hb2 (by have := hb1.size; simp only [World.size_alloc, World.size_drew, size_drewN] at this; omega)
      have kG_2_0 : w2.cell? ⟨w1.heap.size, 0, none⟩ = some (.slice none 0 0) := hG2.cell 0
      have fG_2_0 : w2.frozen? ⟨w1.heap.size, 0, none⟩ = false := hG2.frozen 0
      have kG_2_1 : w2.cell? ⟨w1.heap.size, 1, none⟩ = some (.slice none 0 0) := hG2.cell 1
      have fG_2_1 : w2.frozen? ⟨w1.heap.size, 1, none⟩ = false := hG2.frozen 1
      have kG_2_2 : w2.cell? ⟨w1.heap.size, 2, none⟩ = some (.slice none 0 0) := hG2.cell 2
      have fG_2_2 : w2.frozen? ⟨w1.heap.size, 2, none⟩ = false := hG2.frozen 2
      have kG_2_3 : w2.cell? ⟨w1.heap.size, 3, none⟩ = some (.int .i64 0) := hG2.cell 3
      have fG_2_3 : w2.frozen? ⟨w1.heap.size, 3, none⟩ = false := hG2.frozen 3
      have kG_2_4 : w2.cell? ⟨w1.heap.size, 4, none⟩ = some (.int .i64 0) := hG2.cell 4
      have fG_2_4 : w2.frozen? ⟨w1.heap.size, 4, none⟩ = false := hG2.frozen 4
      have zG_2 : w1.heap.size < w2.heap.size := hG2.lt
      refine wpAnyH_ready (rs := [10]) (by kernel_rfl) (by simp) ?_
      refine (AllReadyH.cons (opN rfl) (fun K hK => ?_) AllReadyH.nil)
      go_simp
      refine hK.out _ _ ?_ (fun hHeld => ?_)
      · (try dsimp only)
        exact HS.out _ (by (repeat' (first | (with_reducible exact Below.refl _ _) | (with_reducible assumption) | (with_reducible refine bel_set ?_ (by (try dsimp only); omega) _) | (with_reducible refine bel_alloc ?_ _) | (with_reducible refine bel_drewN ?_ _) | (with_reducible refine bel_drew ?_) | (with_reducible refine bel_trans ?_ (by assumption)))); done)
      clear hK K
      try simp only [Act.put, List.setIfInBounds_toArray, List.set_cons_zero, List.set_cons_succ]
      clear kG_2_0 fG_2_0 kG_2_1 fG_2_1 kG_2_2 fG_2_2 kG_2_3 fG_2_3 kG_2_4 fG_2_4
      refine wpAnyH_done (by kernel_rfl) ?_ _
      refine NoPanic.normal ?_
      go_wp2_with fail
      refine (C_spec_SecretOf _ _ l _ by_ (Ty.rd_below (by (repeat' (first | (with_reducible exact Below.refl _ _) | (with_reducible assumption) | (with_reducible refine bel_set ?_ (by (try dsimp only); omega) _) | (with_reducible refine bel_alloc ?_ _) | (with_reducible refine bel_drewN ?_ _) | (with_reducible refine bel_drew ?_) | (with_reducible refine bel_trans ?_ (by assumption)))); done) (Ty.rd_below hvb h0)) (Ty.rd_below (by (repeat' (first | (with_reducible exact Below.refl _ _) | (with_reducible assumption) | (with_reducible refine bel_set ?_ (by (try dsimp only); omega) _) | (with_reducible refine bel_alloc ?_ _) | (with_reducible refine bel_drewN ?_ _) | (with_reducible refine bel_drew ?_) | (with_reducible refine bel_trans ?_ (by assumption)))); done) (Ty.rd_below hvb h1)) s0 s1).mono ?_
      rintro e w4 ⟨rfl, hb4⟩
      have hz4 := hb4.size
      try simp only [World.size_alloc, World.size_setCell, World.size_drew, size_drewN] at hz4
      have hx4 : Below WX.heap.size WX w4 := (by (repeat' (first | (with_reducible exact Below.refl _ _) | (with_reducible assumption) | (with_reducible refine bel_set ?_ (by (try dsimp only); omega) _) | (with_reducible refine bel_alloc ?_ _) | (with_reducible refine bel_drewN ?_ _) | (with_reducible refine bel_drew ?_) | (with_reducible refine bel_trans ?_ (by assumption)))); done)
      have hw4 : Below w.heap.size w w4 := bel_trans hvb hx4
      have hX4 : Blk w4 (w1.heap.size) 46 #[.slice Ad0 (List.length X.1) cd0, .slice Ad1 (List.length X.2.1) cd1, .slice Ad2 (List.length X.2.2.1) cd2, .int .i64 X.2.2.2.1, .int .i64 X.2.2.2.2] := by
        refine Blk.below (w := _) (B := _) ?_ hb4 (by simp only [World.size_alloc, World.size_setCell, World.size_drew, size_drewN]; omega)
        exact ((((hG2.set_ 0 _).set_ 1 _).set_ 2 _).set_ 3 _).set_ 4 _
      obtain ⟨hK4, hN4, hR4⟩ := HB.out _ (hx4)
      have kR_4_0 : w4.cell? ⟨w.heap.size + 1 + 1, 0, none⟩ = some (.slice none 0 0) := hR4.cell 0
      have fR_4_0 : w4.frozen? ⟨w.heap.size + 1 + 1, 0, none⟩ = false := hR4.frozen 0
      have kR_4_1 : w4.cell? ⟨w.heap.size + 1 + 1, 1, none⟩ = some (.slice none 0 0) := hR4.cell 1
      have fR_4_1 : w4.frozen? ⟨w.heap.size + 1 + 1, 1, none⟩ = false := hR4.frozen 1
      have kR_4_2 : w4.cell? ⟨w.heap.size + 1 + 1, 2, none⟩ = some (.slice none 0 0) := hR4.cell 2
      have fR_4_2 : w4.frozen? ⟨w.heap.size + 1 + 1, 2, none⟩ = false := hR4.frozen 2
      have kR_4_3 : w4.cell? ⟨w.heap.size + 1 + 1, 3, none⟩ = some (.int .i64 0) := hR4.cell 3
      have fR_4_3 : w4.frozen? ⟨w.heap.size + 1 + 1, 3, none⟩ = false := hR4.frozen 3
      have kR_4_4 : w4.cell? ⟨w.heap.size + 1 + 1, 4, none⟩ = some (.int .i64 0) := hR4.cell 4
      have fR_4_4 : w4.frozen? ⟨w.heap.size + 1 + 1, 4, none⟩ = false := hR4.frozen 4
      have zR_4 : w.heap.size + 1 + 1 < w4.heap.size := hR4.lt
      have kX_4_0 : w4.cell? ⟨w1.heap.size, 0, none⟩ = some (.slice Ad0 (List.length X.1) cd0) := hX4.cell 0
      have fX_4_0 : w4.frozen? ⟨w1.heap.size, 0, none⟩ = false := hX4.frozen 0
      have kX_4_1 : w4.cell? ⟨w1.heap.size, 1, none⟩ = some (.slice Ad1 (List.length X.2.1) cd1) := hX4.cell 1
      have fX_4_1 : w4.frozen? ⟨w1.heap.size, 1, none⟩ = false := hX4.frozen 1
      have kX_4_2 : w4.cell? ⟨w1.heap.size, 2, none⟩ = some (.slice Ad2 (List.length X.2.2.1) cd2) := hX4.cell 2
      have fX_4_2 : w4.frozen? ⟨w1.heap.size, 2, none⟩ = false := hX4.frozen 2
      have kX_4_3 : w4.cell? ⟨w1.heap.size, 3, none⟩ = some (.int .i64 X.2.2.2.1) := hX4.cell 3
      have fX_4_3 : w4.frozen? ⟨w1.heap.size, 3, none⟩ = false := hX4.frozen 3
      have kX_4_4 : w4.cell? ⟨w1.heap.size, 4, none⟩ = some (.int .i64 X.2.2.2.2) := hX4.cell 4
      have fX_4_4 : w4.frozen? ⟨w1.heap.size, 4, none⟩ = false := hX4.frozen 4
      have zX_4 : w1.heap.size < w4.heap.size := hX4.lt
      by_cases hz : f_SecretOf l by_ = 0
      · have q0 : (f_SecretOf l by_ == 0) = true := by simp [hz]
        have HFF : Hid (F1 = false) := by show _ = _; rw [HF1.out, hz]; rfl
        clear hz
        go_wp2
        refine bodyPost_ret (v := .tuple #[.agg #[.slice none 0 0, .slice none 0 0, .slice none 0 0, .int .i64 0, .int .i64 0], .bool false]) (by simp [results, Try.results148, go_sem, kR_4_0, fR_4_0, kR_4_1, fR_4_1, kR_4_2, fR_4_2, kR_4_3, fR_4_3, kR_4_4, fR_4_4, kX_4_0, fX_4_0, kX_4_1, fX_4_1, kX_4_2, fX_4_2, kX_4_3, fX_4_3, kX_4_4, fX_4_4, zR_4, zX_4]) rfl ?_
        rw [HNO.out HFF.out, HFF.out]
        exact ⟨_, _, rfl, ow_zeroData _, fr_zero _ _, (by (repeat' (first | (with_reducible exact Below.refl _ _) | (with_reducible assumption) | (with_reducible refine bel_set ?_ (by (try dsimp only); omega) _) | (with_reducible refine bel_alloc ?_ _) | (with_reducible refine bel_drewN ?_ _) | (with_reducible refine bel_drew ?_) | (with_reducible refine bel_trans ?_ (by assumption)))); done)⟩
      have q0 : (f_SecretOf l by_ == 0) = false := by simp [hz]
      have HZ : Hid (decide (f_SecretOf l by_ = 0) = false) := by show _ = _; simp [hz]
      clear hz
      go_wp2_with fail
      refine (C_spec_ValidDataG _ _ X (Ty.rd_below hb4 (Ty.ow_rd (Ty.ow_keep (by intro b hb'; have hb'' := (hfrx).2 b hb'; (try simp only [World.size_alloc, World.size_setCell, size_drewN, World.size_drew] at hb''); repeat (first | (with_reducible rfl) | (rw [Below.heap_setCell _ _ _ _ (by (try dsimp only); omega)]) | (rw [Below.heap_alloc _ _ _ (by (try simp only [World.size_alloc, World.size_setCell]); omega)]))) howx)))).mono ?_
      rintro e w5 ⟨rfl, hb5⟩
      have hz5 := hb5.size
      have hx5 : Below WX.heap.size WX w5 := bel_trans hx4 hb5
      have hw5 : Below w.heap.size w w5 := bel_trans hvb hx5
      clear kR_4_0 fR_4_0 kR_4_1 fR_4_1 kR_4_2 fR_4_2 kR_4_3 fR_4_3 kR_4_4 fR_4_4 kX_4_0 fX_4_0 kX_4_1 fX_4_1 kX_4_2 fX_4_2 kX_4_3 fX_4_3 kX_4_4 fX_4_4
      obtain ⟨hK5, hN5, hR5⟩ := HB.out _ (hx5)
      have hX5 : Blk w5 (w1.heap.size) 46 #[.slice Ad0 (List.length X.1) cd0, .slice Ad1 (List.length X.2.1) cd1, .slice Ad2 (List.length X.2.2.1) cd2, .int .i64 X.2.2.2.1, .int .i64 X.2.2.2.2] := hX4.below hb5 (hX4.lt)
      have kR_5_0 : w5.cell? ⟨w.heap.size + 1 + 1, 0, none⟩ = some (.slice none 0 0) := hR5.cell 0
      have fR_5_0 : w5.frozen? ⟨w.heap.size + 1 + 1, 0, none⟩ = false := hR5.frozen 0
      have kR_5_1 : w5.cell? ⟨w.heap.size + 1 + 1, 1, none⟩ = some (.slice none 0 0) := hR5.cell 1
      have fR_5_1 : w5.frozen? ⟨w.heap.size + 1 + 1, 1, none⟩ = false := hR5.frozen 1
      have kR_5_2 : w5.cell? ⟨w.heap.size + 1 + 1, 2, none⟩ = some (.slice none 0 0) := hR5.cell 2
      have fR_5_2 : w5.frozen? ⟨w.heap.size + 1 + 1, 2, none⟩ = false := hR5.frozen 2
      have kR_5_3 : w5.cell? ⟨w.heap.size + 1 + 1, 3, none⟩ = some (.int .i64 0) := hR5.cell 3
      have fR_5_3 : w5.frozen? ⟨w.heap.size + 1 + 1, 3, none⟩ = false := hR5.frozen 3
      have kR_5_4 : w5.cell? ⟨w.heap.size + 1 + 1, 4, none⟩ = some (.int .i64 0) := hR5.cell 4
      have fR_5_4 : w5.frozen? ⟨w.heap.size + 1 + 1, 4, none⟩ = false := hR5.frozen 4
      have zR_5 : w.heap.size + 1 + 1 < w5.heap.size := hR5.lt
      have kX_5_0 : w5.cell? ⟨w1.heap.size, 0, none⟩ = some (.slice Ad0 (List.length X.1) cd0) := hX5.cell 0
      have fX_5_0 : w5.frozen? ⟨w1.heap.size, 0, none⟩ = false := hX5.frozen 0
      have kX_5_1 : w5.cell? ⟨w1.heap.size, 1, none⟩ = some (.slice Ad1 (List.length X.2.1) cd1) := hX5.cell 1
      have fX_5_1 : w5.frozen? ⟨w1.heap.size, 1, none⟩ = false := hX5.frozen 1
      have kX_5_2 : w5.cell? ⟨w1.heap.size, 2, none⟩ = some (.slice Ad2 (List.length X.2.2.1) cd2) := hX5.cell 2
      have fX_5_2 : w5.frozen? ⟨w1.heap.size, 2, none⟩ = false := hX5.frozen 2
      have kX_5_3 : w5.cell? ⟨w1.heap.size, 3, none⟩ = some (.int .i64 X.2.2.2.1) := hX5.cell 3
      have fX_5_3 : w5.frozen? ⟨w1.heap.size, 3, none⟩ = false := hX5.frozen 3
      have kX_5_4 : w5.cell? ⟨w1.heap.size, 4, none⟩ = some (.int .i64 X.2.2.2.2) := hX5.cell 4
      have fX_5_4 : w5.frozen? ⟨w1.heap.size, 4, none⟩ = false := hX5.frozen 4
      have zX_5 : w1.heap.size < w5.heap.size := hX5.lt
      cases q1 : f_ValidData X
      · have HFF : Hid (F1 = false) := by show _ = _; rw [HF1.out, HZ.out, q1]; rfl
        clear q1
        go_wp2
        refine bodyPost_ret (v := .tuple #[.agg #[.slice none 0 0, .slice none 0 0, .slice none 0 0, .int .i64 0, .int .i64 0], .bool false]) (by simp [results, Try.results148, go_sem, kR_5_0, fR_5_0, kR_5_1, fR_5_1, kR_5_2, fR_5_2, kR_5_3, fR_5_3, kR_5_4, fR_5_4, kX_5_0, fX_5_0, kX_5_1, fX_5_1, kX_5_2, fX_5_2, kX_5_3, fX_5_3, kX_5_4, fX_5_4, zR_5, zX_5]) rfl ?_
        rw [HNO.out HFF.out, HFF.out]
        exact ⟨_, _, rfl, ow_zeroData _, fr_zero _ _, (by (repeat' (first | (with_reducible exact Below.refl _ _) | (with_reducible assumption) | (with_reducible refine bel_set ?_ (by (try dsimp only); omega) _) | (with_reducible refine bel_alloc ?_ _) | (with_reducible refine bel_drewN ?_ _) | (with_reducible refine bel_drew ?_) | (with_reducible refine bel_trans ?_ (by assumption)))); done)⟩
      · have HFF : Hid (F1 = true) := by show _ = _; rw [HF1.out, HZ.out, q1]; rfl
        clear q1
        go_wp2
        refine bodyPost_ret (v := .tuple #[.agg #[.slice Ad0 (List.length X.1) cd0, .slice Ad1 (List.length X.2.1) cd1, .slice Ad2 (List.length X.2.2.1) cd2, .int .i64 X.2.2.2.1, .int .i64 X.2.2.2.2], .bool true]) (by simp [results, Try.results148, go_sem, kR_5_0, fR_5_0, kR_5_1, fR_5_1, kR_5_2, fR_5_2, kR_5_3, fR_5_3, kR_5_4, fR_5_4, kX_5_0, fX_5_0, kX_5_1, fX_5_1, kX_5_2, fX_5_2, kX_5_3, fX_5_3, kX_5_4, fX_5_4, zR_5, zX_5]) rfl ?_
        rw [HYES.out HFF.out, HFF.out]
        exact ⟨_, fpx, rfl, Ty.ow_keep (by intro b hb'; have hb'' := (hfrx).2 b hb'; (try simp only [World.size_alloc, World.size_setCell, size_drewN, World.size_drew] at hb''); repeat (first | (with_reducible rfl) | (rw [Below.heap_setCell _ _ _ _ (by (try dsimp only); omega)]) | (rw [Below.heap_alloc _ _ _ (by (try simp only [World.size_alloc, World.size_setCell]); omega)]) | (rw [hb5.block _ (by (try simp only [World.size_alloc, World.size_setCell, size_drewN, World.size_drew]); omega)]) | (rw [hb4.block _ (by (try simp only [World.size_alloc, World.size_setCell, size_drewN, World.size_drew]); omega)]))) howx, hfrx.mono (by (try simp only [World.size_alloc, World.size_drew, size_drewN] at *); omega) (by (try simp only [World.size_alloc, World.size_setCell, size_drewN, World.size_drew]); omega), (by (repeat' (first | (with_reducible exact Below.refl _ _) | (with_reducible assumption) | (with_reducible refine bel_set ?_ (by (try dsimp only); omega) _) | (with_reducible refine bel_alloc ?_ _) | (with_reducible refine bel_drewN ?_ _) | (with_reducible refine bel_drew ?_) | (with_reducible refine bel_trans ?_ (by assumption)))); done)⟩
  · go_simp
    refine hK.out _ _ ?_ (fun hHeld => ?_)
    · (try dsimp only)
      exact HS.out _ (by (repeat' (first | (with_reducible exact Below.refl _ _) | (with_reducible assumption) | (with_reducible refine bel_set ?_ (by (try dsimp only); omega) _) | (with_reducible refine bel_alloc ?_ _) | (with_reducible refine bel_drewN ?_ _) | (with_reducible refine bel_drew ?_) | (with_reducible refine bel_trans ?_ (by assumption)))); done)
    clear hK K
    try simp only [Act.put, List.setIfInBounds_toArray, List.set_cons_zero, List.set_cons_succ]
    refine wpAnyH_ready (rs := [2]) (by kernel_rfl) (by simp) ?_
    refine (AllReadyH.cons (opN rfl) (fun K hK => ?_) AllReadyH.nil)
    go_simp
    go_at_call 174
    refine (C_spec_SecretOf _ _ l _ by_ (Ty.rd_below (by (repeat' (first | (with_reducible exact Below.refl _ _) | (with_reducible assumption) | (with_reducible refine bel_set ?_ (by (try dsimp only); omega) _) | (with_reducible refine bel_alloc ?_ _) | (with_reducible refine bel_drewN ?_ _) | (with_reducible refine bel_drew ?_) | (with_reducible refine bel_trans ?_ (by assumption)))); done) (Ty.rd_below hvb h0)) (Ty.rd_below (by (repeat' (first | (with_reducible exact Below.refl _ _) | (with_reducible assumption) | (with_reducible refine bel_set ?_ (by (try dsimp only); omega) _) | (with_reducible refine bel_alloc ?_ _) | (with_reducible refine bel_drewN ?_ _) | (with_reducible refine bel_drew ?_) | (with_reducible refine bel_trans ?_ (by assumption)))); done) (Ty.rd_below hvb h1)) s0 s1).mono ?_
    rintro e w1 ⟨rfl, hb1⟩
    have hx1 : Below WX.heap.size WX w1 := (by (repeat' (first | (with_reducible exact Below.refl _ _) | (with_reducible assumption) | (with_reducible refine bel_set ?_ (by (try dsimp only); omega) _) | (with_reducible refine bel_alloc ?_ _) | (with_reducible refine bel_drewN ?_ _) | (with_reducible refine bel_drew ?_) | (with_reducible refine bel_trans ?_ (by assumption)))); done)
    refine hK.out _ _ ?_ (fun hHeld => ?_)
    · (try dsimp only)
      exact HS.out _ (by (repeat' (first | (with_reducible exact Below.refl _ _) | (with_reducible assumption) | (with_reducible refine bel_set ?_ (by (try dsimp only); omega) _) | (with_reducible refine bel_alloc ?_ _) | (with_reducible refine bel_drewN ?_ _) | (with_reducible refine bel_drew ?_) | (with_reducible refine bel_trans ?_ (by assumption)))); done)
    clear hK K
    try simp only [Act.put, List.setIfInBounds_toArray, List.set_cons_zero, List.set_cons_succ]
    refine wpAnyH_ready (rs := [8]) (by kernel_rfl) (by simp) ?_
    refine (AllReadyH.cons (opN rfl) (fun K hK => ?_) AllReadyH.nil)
    go_simp
    go_at_call 56
    refine (C_spec_SignDataB _ _ _ (swkD by_ n b till) (rd_Data_mk (x := swkD by_ n b till) (Ty.rd_below (by (repeat' (first | (with_reducible exact Below.refl _ _) | (with_reducible assumption) | (with_reducible refine bel_set ?_ (by (try dsimp only); omega) _) | (with_reducible refine bel_alloc ?_ _) | (with_reducible refine bel_drewN ?_ _) | (with_reducible refine bel_drew ?_) | (with_reducible refine bel_trans ?_ (by assumption)))); done) (Ty.rd_below hvb h2)) (Ty.rd_below (by (repeat' (first | (with_reducible exact Below.refl _ _) | (with_reducible assumption) | (with_reducible refine bel_set ?_ (by (try dsimp only); omega) _) | (with_reducible refine bel_alloc ?_ _) | (with_reducible refine bel_drewN ?_ _) | (with_reducible refine bel_drew ?_) | (with_reducible refine bel_trans ?_ (by assumption)))); done) (Ty.rd_below hvb h3)) (Ty.rd_below (by (repeat' (first | (with_reducible exact Below.refl _ _) | (with_reducible assumption) | (with_reducible refine bel_set ?_ (by (try dsimp only); omega) _) | (with_reducible refine bel_alloc ?_ _) | (with_reducible refine bel_drewN ?_ _) | (with_reducible refine bel_drew ?_) | (with_reducible refine bel_trans ?_ (by assumption)))); done) (Ty.rd_below hvb h1)) i4 (by show _ ≤ (0 : Int) ∧ (0 : Int) ≤ _; decide)) hsb hbk).mono ?_
    rw [← HX.out]
    rintro e w2 ⟨csx, fpx, rfl, howx, hfrx, hb2⟩
    obtain ⟨Ad0, cd0, Ad1, cd1, Ad2, cd2, rfl⟩ := ow_Data howx
    have hx2 : Below WX.heap.size WX w2 := (by (repeat' (first | (with_reducible exact Below.refl _ _) | (with_reducible assumption) | (with_reducible refine bel_set ?_ (by (try dsimp only); omega) _) | (with_reducible refine bel_alloc ?_ _) | (with_reducible refine bel_drewN ?_ _) | (with_reducible refine bel_drew ?_) | (with_reducible refine bel_trans ?_ (by assumption)))); done)
    refine hK.out _ _ ?_ (fun hHeld => ?_)
    · (try dsimp only)
      exact HS.out _ (by (repeat' (first | (with_reducible exact Below.refl _ _) | (with_reducible assumption) | (with_reducible refine bel_set ?_ (by (try dsimp only); omega) _) | (with_reducible refine bel_alloc ?_ _) | (with_reducible refine bel_drewN ?_ _) | (with_reducible refine bel_drew ?_) | (with_reducible refine bel_trans ?_ (by assumption)))); done)
    clear hK K
    try simp only [Act.put, List.setIfInBounds_toArray, List.set_cons_zero, List.set_cons_succ]
    have hzs1 := hb1.size
    have hzs2 := hb2.size
    try simp only [World.size_alloc, World.size_drew, size_drewN] at hzs1 hzs2
    have hG2 : Blk w2 (WX.heap.size) 46 #[.slice none 0 0, .slice none 0 0, .slice none 0 0, .int .i64 0, .int .i64 0] := by
      first
        | exact (Blk.new (WX) _ _).below hb2 (by simp only [World.size_alloc, World.size_drew, size_drewN]; omega)
        | exact (Blk.drew (Blk.new (WX) _ _)).below hb2 (by simp only [World.size_alloc, World.size_drew, size_drewN]; omega)
        | exact ((Blk.drew (Blk.new (WX) _ _)).below hb1 (by simp only [World.size_alloc, World.size_drew, size_drewN]; omega)).below hb2 (by have := hb1.size; simp only [World.size_alloc, World.size_drew, size_drewN] at this; omega)
        | exact ((Blk.new (WX) _ _).below hb1 (by simp only [World.size_alloc, World.size_drew, size_drewN]; omega)).below hb2 (by have := hb1.size; simp only [World.size_alloc, World.size_drew, size_drewN] at this; omega)
    have kG_2_0 : w2.cell? ⟨WX.heap.size, 0, none⟩ = some (.slice none 0 0) := hG2.cell 0
    have fG_2_0 : w2.frozen? ⟨WX.heap.size, 0, none⟩ = false := hG2.frozen 0
    have kG_2_1 : w2.cell? ⟨WX.heap.size, 1, none⟩ = some (.slice none 0 0) := hG2.cell 1
    have fG_2_1 : w2.frozen? ⟨WX.heap.size, 1, none⟩ = false := hG2.frozen 1
    have kG_2_2 : w2.cell? ⟨WX.heap.size, 2, none⟩ = some (.slice none 0 0) := hG2.cell 2
    have fG_2_2 : w2.frozen? ⟨WX.heap.size, 2, none⟩ = false := hG2.frozen 2
    have kG_2_3 : w2.cell? ⟨WX.heap.size, 3, none⟩ = some (.int .i64 0) := hG2.cell 3
    have fG_2_3 : w2.frozen? ⟨WX.heap.size, 3, none⟩ = false := hG2.frozen 3
    have kG_2_4 : w2.cell? ⟨WX.heap.size, 4, none⟩ = some (.int .i64 0) := hG2.cell 4
    have fG_2_4 : w2.frozen? ⟨WX.heap.size, 4, none⟩ = false := hG2.frozen 4
    have zG_2 : WX.heap.size < w2.heap.size := hG2.lt
    refine wpAnyH_ready (rs := [10]) (by kernel_rfl) (by simp) ?_
    refine (AllReadyH.cons (opN rfl) (fun K hK => ?_) AllReadyH.nil)
    go_simp
    refine hK.out _ _ ?_ (fun hHeld => ?_)
    · (try dsimp only)
      exact HS.out _ (by (repeat' (first | (with_reducible exact Below.refl _ _) | (with_reducible assumption) | (with_reducible refine bel_set ?_ (by (try dsimp only); omega) _) | (with_reducible refine bel_alloc ?_ _) | (with_reducible refine bel_drewN ?_ _) | (with_reducible refine bel_drew ?_) | (with_reducible refine bel_trans ?_ (by assumption)))); done)
    clear hK K
    try simp only [Act.put, List.setIfInBounds_toArray, List.set_cons_zero, List.set_cons_succ]
    clear kG_2_0 fG_2_0 kG_2_1 fG_2_1 kG_2_2 fG_2_2 kG_2_3 fG_2_3 kG_2_4 fG_2_4
    refine wpAnyH_done (by kernel_rfl) ?_ _
    refine NoPanic.normal ?_
    go_wp2_with fail
    refine (C_spec_SecretOf _ _ l _ by_ (Ty.rd_below (by (repeat' (first | (with_reducible exact Below.refl _ _) | (with_reducible assumption) | (with_reducible refine bel_set ?_ (by (try dsimp only); omega) _) | (with_reducible refine bel_alloc ?_ _) | (with_reducible refine bel_drewN ?_ _) | (with_reducible refine bel_drew ?_) | (with_reducible refine bel_trans ?_ (by assumption)))); done) (Ty.rd_below hvb h0)) (Ty.rd_below (by (repeat' (first | (with_reducible exact Below.refl _ _) | (with_reducible assumption) | (with_reducible refine bel_set ?_ (by (try dsimp only); omega) _) | (with_reducible refine bel_alloc ?_ _) | (with_reducible refine bel_drewN ?_ _) | (with_reducible refine bel_drew ?_) | (with_reducible refine bel_trans ?_ (by assumption)))); done) (Ty.rd_below hvb h1)) s0 s1).mono ?_
    rintro e w4 ⟨rfl, hb4⟩
    have hz4 := hb4.size
    try simp only [World.size_alloc, World.size_setCell, World.size_drew, size_drewN] at hz4
    have hx4 : Below WX.heap.size WX w4 := (by (repeat' (first | (with_reducible exact Below.refl _ _) | (with_reducible assumption) | (with_reducible refine bel_set ?_ (by (try dsimp only); omega) _) | (with_reducible refine bel_alloc ?_ _) | (with_reducible refine bel_drewN ?_ _) | (with_reducible refine bel_drew ?_) | (with_reducible refine bel_trans ?_ (by assumption)))); done)
    have hw4 : Below w.heap.size w w4 := bel_trans hvb hx4
    have hX4 : Blk w4 (WX.heap.size) 46 #[.slice Ad0 (List.length X.1) cd0, .slice Ad1 (List.length X.2.1) cd1, .slice Ad2 (List.length X.2.2.1) cd2, .int .i64 X.2.2.2.1, .int .i64 X.2.2.2.2] := by
      refine Blk.below (w := _) (B := _) ?_ hb4 (by simp only [World.size_alloc, World.size_setCell, World.size_drew, size_drewN]; omega)
      exact ((((hG2.set_ 0 _).set_ 1 _).set_ 2 _).set_ 3 _).set_ 4 _
    obtain ⟨hK4, hN4, hR4⟩ := HB.out _ (hx4)
    have kR_4_0 : w4.cell? ⟨w.heap.size + 1 + 1, 0, none⟩ = some (.slice none 0 0) := hR4.cell 0
    have fR_4_0 : w4.frozen? ⟨w.heap.size + 1 + 1, 0, none⟩ = false := hR4.frozen 0
    have kR_4_1 : w4.cell? ⟨w.heap.size + 1 + 1, 1, none⟩ = some (.slice none 0 0) := hR4.cell 1
    have fR_4_1 : w4.frozen? ⟨w.heap.size + 1 + 1, 1, none⟩ = false := hR4.frozen 1
    have kR_4_2 : w4.cell? ⟨w.heap.size + 1 + 1, 2, none⟩ = some (.slice none 0 0) := hR4.cell 2
    have fR_4_2 : w4.frozen? ⟨w.heap.size + 1 + 1, 2, none⟩ = false := hR4.frozen 2
    have kR_4_3 : w4.cell? ⟨w.heap.size + 1 + 1, 3, none⟩ = some (.int .i64 0) := hR4.cell 3
    have fR_4_3 : w4.frozen? ⟨w.heap.size + 1 + 1, 3, none⟩ = false := hR4.frozen 3
    have kR_4_4 : w4.cell? ⟨w.heap.size + 1 + 1, 4, none⟩ = some (.int .i64 0) := hR4.cell 4
    have fR_4_4 : w4.frozen? ⟨w.heap.size + 1 + 1, 4, none⟩ = false := hR4.frozen 4
    have zR_4 : w.heap.size + 1 + 1 < w4.heap.size := hR4.lt
    have kX_4_0 : w4.cell? ⟨WX.heap.size, 0, none⟩ = some (.slice Ad0 (List.length X.1) cd0) := hX4.cell 0
    have fX_4_0 : w4.frozen? ⟨WX.heap.size, 0, none⟩ = false := hX4.frozen 0
    have kX_4_1 : w4.cell? ⟨WX.heap.size, 1, none⟩ = some (.slice Ad1 (List.length X.2.1) cd1) := hX4.cell 1
    have fX_4_1 : w4.frozen? ⟨WX.heap.size, 1, none⟩ = false := hX4.frozen 1
    have kX_4_2 : w4.cell? ⟨WX.heap.size, 2, none⟩ = some (.slice Ad2 (List.length X.2.2.1) cd2) := hX4.cell 2
    have fX_4_2 : w4.frozen? ⟨WX.heap.size, 2, none⟩ = false := hX4.frozen 2
    have kX_4_3 : w4.cell? ⟨WX.heap.size, 3, none⟩ = some (.int .i64 X.2.2.2.1) := hX4.cell 3
    have fX_4_3 : w4.frozen? ⟨WX.heap.size, 3, none⟩ = false := hX4.frozen 3
    have kX_4_4 : w4.cell? ⟨WX.heap.size, 4, none⟩ = some (.int .i64 X.2.2.2.2) := hX4.cell 4
    have fX_4_4 : w4.frozen? ⟨WX.heap.size, 4, none⟩ = false := hX4.frozen 4
    have zX_4 : WX.heap.size < w4.heap.size := hX4.lt
    by_cases hz : f_SecretOf l by_ = 0
    · have q0 : (f_SecretOf l by_ == 0) = true := by simp [hz]
      have HFF : Hid (F1 = false) := by show _ = _; rw [HF1.out, hz]; rfl
      clear hz
      go_wp2
      refine bodyPost_ret (v := .tuple #[.agg #[.slice none 0 0, .slice none 0 0, .slice none 0 0, .int .i64 0, .int .i64 0], .bool false]) (by simp [results, Try.results148, go_sem, kR_4_0, fR_4_0, kR_4_1, fR_4_1, kR_4_2, fR_4_2, kR_4_3, fR_4_3, kR_4_4, fR_4_4, kX_4_0, fX_4_0, kX_4_1, fX_4_1, kX_4_2, fX_4_2, kX_4_3, fX_4_3, kX_4_4, fX_4_4, zR_4, zX_4]) rfl ?_
      rw [HNO.out HFF.out, HFF.out]
      exact ⟨_, _, rfl, ow_zeroData _, fr_zero _ _, (by (repeat' (first | (with_reducible exact Below.refl _ _) | (with_reducible assumption) | (with_reducible refine bel_set ?_ (by (try dsimp only); omega) _) | (with_reducible refine bel_alloc ?_ _) | (with_reducible refine bel_drewN ?_ _) | (with_reducible refine bel_drew ?_) | (with_reducible refine bel_trans ?_ (by assumption)))); done)⟩
    have q0 : (f_SecretOf l by_ == 0) = false := by simp [hz]
    have HZ : Hid (decide (f_SecretOf l by_ = 0) = false) := by show _ = _; simp [hz]
    clear hz
    go_wp2_with fail
    refine (C_spec_ValidDataG _ _ X (Ty.rd_below hb4 (Ty.ow_rd (Ty.ow_keep (by intro b hb'; have hb'' := (hfrx).2 b hb'; (try simp only [World.size_alloc, World.size_setCell, size_drewN, World.size_drew] at hb''); repeat (first | (with_reducible rfl) | (rw [Below.heap_setCell _ _ _ _ (by (try dsimp only); omega)]) | (rw [Below.heap_alloc _ _ _ (by (try simp only [World.size_alloc, World.size_setCell]); omega)]))) howx)))).mono ?_
    rintro e w5 ⟨rfl, hb5⟩
    have hz5 := hb5.size
    have hx5 : Below WX.heap.size WX w5 := bel_trans hx4 hb5
    have hw5 : Below w.heap.size w w5 := bel_trans hvb hx5
    clear kR_4_0 fR_4_0 kR_4_1 fR_4_1 kR_4_2 fR_4_2 kR_4_3 fR_4_3 kR_4_4 fR_4_4 kX_4_0 fX_4_0 kX_4_1 fX_4_1 kX_4_2 fX_4_2 kX_4_3 fX_4_3 kX_4_4 fX_4_4
    obtain ⟨hK5, hN5, hR5⟩ := HB.out _ (hx5)
    have hX5 : Blk w5 (WX.heap.size) 46 #[.slice Ad0 (List.length X.1) cd0, .slice Ad1 (List.length X.2.1) cd1, .slice Ad2 (List.length X.2.2.1) cd2, .int .i64 X.2.2.2.1, .int .i64 X.2.2.2.2] := hX4.below hb5 (hX4.lt)
    have kR_5_0 : w5.cell? ⟨w.heap.size + 1 + 1, 0, none⟩ = some (.slice none 0 0) := hR5.cell 0
    have fR_5_0 : w5.frozen? ⟨w.heap.size + 1 + 1, 0, none⟩ = false := hR5.frozen 0
    have kR_5_1 : w5.cell? ⟨w.heap.size + 1 + 1, 1, none⟩ = some (.slice none 0 0) := hR5.cell 1
    have fR_5_1 : w5.frozen? ⟨w.heap.size + 1 + 1, 1, none⟩ = false := hR5.frozen 1
    have kR_5_2 : w5.cell? ⟨w.heap.size + 1 + 1, 2, none⟩ = some (.slice none 0 0) := hR5.cell 2
    have fR_5_2 : w5.frozen? ⟨w.heap.size + 1 + 1, 2, none⟩ = false := hR5.frozen 2
    have kR_5_3 : w5.cell? ⟨w.heap.size + 1 + 1, 3, none⟩ = some (.int .i64 0) := hR5.cell 3
    have fR_5_3 : w5.frozen? ⟨w.heap.size + 1 + 1, 3, none⟩ = false := hR5.frozen 3
    have kR_5_4 : w5.cell? ⟨w.heap.size + 1 + 1, 4, none⟩ = some (.int .i64 0) := hR5.cell 4
    have fR_5_4 : w5.frozen? ⟨w.heap.size + 1 + 1, 4, none⟩ = false := hR5.frozen 4
    have zR_5 : w.heap.size + 1 + 1 < w5.heap.size := hR5.lt
    have kX_5_0 : w5.cell? ⟨WX.heap.size, 0, none⟩ = some (.slice Ad0 (List.length X.1) cd0) := hX5.cell 0
    have fX_5_0 : w5.frozen? ⟨WX.heap.size, 0, none⟩ = false := hX5.frozen 0
    have kX_5_1 : w5.cell? ⟨WX.heap.size, 1, none⟩ = some (.slice Ad1 (List.length X.2.1) cd1) := hX5.cell 1
    have fX_5_1 : w5.frozen? ⟨WX.heap.size, 1, none⟩ = false := hX5.frozen 1
    have kX_5_2 : w5.cell? ⟨WX.heap.size, 2, none⟩ = some (.slice Ad2 (List.length X.2.2.1) cd2) := hX5.cell 2
    have fX_5_2 : w5.frozen? ⟨WX.heap.size, 2, none⟩ = false := hX5.frozen 2
    have kX_5_3 : w5.cell? ⟨WX.heap.size, 3, none⟩ = some (.int .i64 X.2.2.2.1) := hX5.cell 3
    have fX_5_3 : w5.frozen? ⟨WX.heap.size, 3, none⟩ = false := hX5.frozen 3
    have kX_5_4 : w5.cell? ⟨WX.heap.size, 4, none⟩ = some (.int .i64 X.2.2.2.2) := hX5.cell 4
    have fX_5_4 : w5.frozen? ⟨WX.heap.size, 4, none⟩ = false := hX5.frozen 4
    have zX_5 : WX.heap.size < w5.heap.size := hX5.lt
    cases q1 : f_ValidData X
    · have HFF : Hid (F1 = false) := by show _ = _; rw [HF1.out, HZ.out, q1]; rfl
      clear q1
      go_wp2
      refine bodyPost_ret (v := .tuple #[.agg #[.slice none 0 0, .slice none 0 0, .slice none 0 0, .int .i64 0, .int .i64 0], .bool false]) (by simp [results, Try.results148, go_sem, kR_5_0, fR_5_0, kR_5_1, fR_5_1, kR_5_2, fR_5_2, kR_5_3, fR_5_3, kR_5_4, fR_5_4, kX_5_0, fX_5_0, kX_5_1, fX_5_1, kX_5_2, fX_5_2, kX_5_3, fX_5_3, kX_5_4, fX_5_4, zR_5, zX_5]) rfl ?_
      rw [HNO.out HFF.out, HFF.out]
      exact ⟨_, _, rfl, ow_zeroData _, fr_zero _ _, (by (repeat' (first | (with_reducible exact Below.refl _ _) | (with_reducible assumption) | (with_reducible refine bel_set ?_ (by (try dsimp only); omega) _) | (with_reducible refine bel_alloc ?_ _) | (with_reducible refine bel_drewN ?_ _) | (with_reducible refine bel_drew ?_) | (with_reducible refine bel_trans ?_ (by assumption)))); done)⟩
    · have HFF : Hid (F1 = true) := by show _ = _; rw [HF1.out, HZ.out, q1]; rfl
      clear q1
      go_wp2
      refine bodyPost_ret (v := .tuple #[.agg #[.slice Ad0 (List.length X.1) cd0, .slice Ad1 (List.length X.2.1) cd1, .slice Ad2 (List.length X.2.2.1) cd2, .int .i64 X.2.2.2.1, .int .i64 X.2.2.2.2], .bool true]) (by simp [results, Try.results148, go_sem, kR_5_0, fR_5_0, kR_5_1, fR_5_1, kR_5_2, fR_5_2, kR_5_3, fR_5_3, kR_5_4, fR_5_4, kX_5_0, fX_5_0, kX_5_1, fX_5_1, kX_5_2, fX_5_2, kX_5_3, fX_5_3, kX_5_4, fX_5_4, zR_5, zX_5]) rfl ?_
      rw [HYES.out HFF.out, HFF.out]
      exact ⟨_, fpx, rfl, Ty.ow_keep (by intro b hb'; have hb'' := (hfrx).2 b hb'; (try simp only [World.size_alloc, World.size_setCell, size_drewN, World.size_drew] at hb''); repeat (first | (with_reducible rfl) | (rw [Below.heap_setCell _ _ _ _ (by (try dsimp only); omega)]) | (rw [Below.heap_alloc _ _ _ (by (try simp only [World.size_alloc, World.size_setCell]); omega)]) | (rw [hb5.block _ (by (try simp only [World.size_alloc, World.size_setCell, size_drewN, World.size_drew]); omega)]) | (rw [hb4.block _ (by (try simp only [World.size_alloc, World.size_setCell, size_drewN, World.size_drew]); omega)]))) howx, hfrx.mono (by (try simp only [World.size_alloc, World.size_drew, size_drewN] at *); omega) (by (try simp only [World.size_alloc, World.size_setCell, size_drewN, World.size_drew]); omega), (by (repeat' (first | (with_reducible exact Below.refl _ _) | (with_reducible assumption) | (with_reducible refine bel_set ?_ (by (try dsimp only); omega) _) | (with_reducible refine bel_alloc ?_ _) | (with_reducible refine bel_drewN ?_ _) | (with_reducible refine bel_drew ?_) | (with_reducible refine bel_trans ?_ (by assumption)))); done)⟩
theorem C_spec_SignWithKey (w : World) (v0 : Value) (l : List (Ty.D tKey)) (cs1 : List Value) (by_ : List (List UInt8)) (cs2 : List Value) (n : List (List UInt8)) (v3 : Value) (b : List UInt8) (till : Int) (h0 : (Ty.sl tKey).rd w [v0] l) (h1 : (Ty.sl .str).rd w cs1 by_) (h2 : (Ty.sl .str).rd w cs2 n) (h3 : (Ty.sl .byte).rd w [v3] b) (s0 : Ty.bulk (.sl tKey) l ≤ 1048576) (s1 : Ty.bulk (.sl .str) by_ ≤ 1048576) (s2 : Ty.bulk (.sl .str) n ≤ 1048576) (s3 : Ty.bulk (.sl .byte) b ≤ 1048576) (i4 : -9223372036854775808 ≤ till ∧ till ≤ 9223372036854775807) :
    Calls Try.prog 148 #[v0, .agg cs1.toArray, .agg cs2.toArray, v3, .int .i64 till] w (RetAgg2 w tData (f0_SignWithKey l by_ n b till) (.bool (f1_SignWithKey l by_ n b till))) := C_spec_SignWithKeyB w v0 l cs1 by_ cs2 n v3 b till h0 h1 h2 h3 s0 s1 s2 s3 i4
end Go.Proofs.Ytldgbnlcnlfmeaa

/- Certificates are issued. Printed by gen25.py. -/
namespace Go.Proofs.Ytldgbnlcnlfmeaa
open Go.RowKit
set_option linter.unusedVariables false
set_option linter.unusedSimpArgs false

def f0_IssueCertificate (l : List (Ty.D tKey)) (n by_ : List (List UInt8)) (till : Int) : tData.D := f0_SignWithKey l by_ n (f_KeyDigest l n) till
def f1_IssueCertificate (l : List (Ty.D tKey)) (n by_ : List (List UInt8)) (till : Int) : Bool := f1_SignWithKey l by_ n (f_KeyDigest l n) till
theorem kdg_bulk (l : List (Ty.D tKey)) (n : List (List UInt8)) : Ty.bulk (.sl .byte) (f_KeyDigest l n) ≤ 1048576 := by
  rw [Ty.bulk_flat (fun _ => rfl)]
  unfold f_KeyDigest
  split
  · simp
  · have := appendVarint_len [] (digest [f_SecretOf l n])
    simp only [List.length_nil] at this
    exact Nat.le_trans this (by decide)
theorem N_IssueCertificate {l : List (Ty.D tKey)} {n by_ : List (List UInt8)} {till : Int} (s0 : Ty.bulk (.sl tKey) l ≤ 1048576) (s1 : Ty.bulk (.sl .str) n ≤ 1048576) (s2 : Ty.bulk (.sl .str) by_ ≤ 1048576) : Ty.cntv tData (f0_IssueCertificate l n by_ till) ≤ 100000000000 :=
  N_SignWithKey s0 s2 s1 (kdg_bulk l n)
set_option maxRecDepth 100000 in
set_option maxHeartbeats 1000000 in
theorem C_spec_IssueCertificate (w : World) (v0 : Value) (l : List (Ty.D tKey)) (cs1 : List Value) (n : List (List UInt8)) (cs2 : List Value) (by_ : List (List UInt8)) (till : Int) (h0 : (Ty.sl tKey).rd w [v0] l) (h1 : (Ty.sl .str).rd w cs1 n) (h2 : (Ty.sl .str).rd w cs2 by_) (s0 : Ty.bulk (.sl tKey) l ≤ 1048576) (s1 : Ty.bulk (.sl .str) n ≤ 1048576) (s2 : Ty.bulk (.sl .str) by_ ≤ 1048576) (i3 : -9223372036854775808 ≤ till ∧ till ≤ 9223372036854775807) :
    Calls Try.prog 147 #[v0, .agg cs1.toArray, .agg cs2.toArray, .int .i64 till] w (RetAgg2 w tData (f0_IssueCertificate l n by_ till) (.bool (f1_IssueCertificate l n by_ till))) := by
  obtain ⟨An, cn, rfl⟩ := Ty.rd_slv h1
  obtain ⟨Ak, ck, rfl⟩ := Ty.rd_slv h2
  have hkb := kdg_bulk l n
  have hF0 : f0_IssueCertificate l n by_ till = f0_SignWithKey l by_ n (f_KeyDigest l n) till := rfl
  have hF1 : f1_IssueCertificate l n by_ till = f1_SignWithKey l by_ n (f_KeyDigest l n) till := rfl
  generalize f0_IssueCertificate l n by_ till = F0 at hF0 ⊢
  generalize f1_IssueCertificate l n by_ till = F1 at hF1 ⊢
  have HF0 := Lib.hid hF0
  have HF1 := Lib.hid hF1
  clear hF0 hF1
  have hBN : Blk (((w.alloc (.cells #[.slice An n.length cn] 27)).alloc (.cells #[.slice Ak by_.length ck] 27)).alloc (.cells #[.slice none 0 0, .slice none 0 0, .slice none 0 0, .int .i64 0, .int .i64 0] 46)) (w.heap.size) 27 #[.slice An n.length cn] := ((Blk.new w 27 #[.slice An n.length cn]).alloc _).alloc _
  have hBK : Blk (((w.alloc (.cells #[.slice An n.length cn] 27)).alloc (.cells #[.slice Ak by_.length ck] 27)).alloc (.cells #[.slice none 0 0, .slice none 0 0, .slice none 0 0, .int .i64 0, .int .i64 0] 46)) (w.heap.size + 1) 27 #[.slice Ak by_.length ck] := (show Blk ((w.alloc (.cells #[.slice An n.length cn] 27)).alloc (.cells #[.slice Ak by_.length ck] 27)) (w.heap.size + 1) 27 #[.slice Ak by_.length ck] from by have := Blk.new (w.alloc (.cells #[.slice An n.length cn] 27)) 27 #[.slice Ak by_.length ck]; rwa [World.size_alloc] at this).alloc _
  have hBR : Blk (((w.alloc (.cells #[.slice An n.length cn] 27)).alloc (.cells #[.slice Ak by_.length ck] 27)).alloc (.cells #[.slice none 0 0, .slice none 0 0, .slice none 0 0, .int .i64 0, .int .i64 0] 46)) (w.heap.size + 1 + 1) 46 #[.slice none 0 0, .slice none 0 0, .slice none 0 0, .int .i64 0, .int .i64 0] := by have := Blk.new ((w.alloc (.cells #[.slice An n.length cn] 27)).alloc (.cells #[.slice Ak by_.length ck] 27)) 46 #[.slice none 0 0, .slice none 0 0, .slice none 0 0, .int .i64 0, .int .i64 0]; rwa [World.size_alloc, World.size_alloc] at this
  have hvb : Below w.heap.size w (((w.alloc (.cells #[.slice An n.length cn] 27)).alloc (.cells #[.slice Ak by_.length ck] 27)).alloc (.cells #[.slice none 0 0, .slice none 0 0, .slice none 0 0, .int .i64 0, .int .i64 0] 46)) := (by repeat' (first | (with_reducible exact Below.refl _ _) | (with_reducible assumption) | (with_reducible refine bel_set ?_ (by (try dsimp only); omega) _) | (with_reducible refine bel_alloc ?_ _) | (with_reducible refine bel_drewN ?_ _) | (with_reducible refine bel_drew ?_)))
  have zb : w.heap.size + 1 + 1 < (((w.alloc (.cells #[.slice An n.length cn] 27)).alloc (.cells #[.slice Ak by_.length ck] 27)).alloc (.cells #[.slice none 0 0, .slice none 0 0, .slice none 0 0, .int .i64 0, .int .i64 0] 46)).heap.size := by simp only [World.size_alloc]; omega
  go_enter Try.func147, Try.ntmps147
  go_wp2_with fail
  generalize (((w.alloc (.cells #[.slice An n.length cn] 27)).alloc (.cells #[.slice Ak by_.length ck] 27)).alloc (.cells #[.slice none 0 0, .slice none 0 0, .slice none 0 0, .int .i64 0, .int .i64 0] 46)) = WX at hBN hBK hBR hvb zb ⊢
  have HB : Hid (∀ W, Below WX.heap.size WX W → Blk W (w.heap.size) 27 #[.slice An n.length cn] ∧ Blk W (w.heap.size + 1) 27 #[.slice Ak by_.length ck] ∧ Blk W (w.heap.size + 1 + 1) 46 #[.slice none 0 0, .slice none 0 0, .slice none 0 0, .int .i64 0, .int .i64 0]) := fun W hW => ⟨hBN.below hW (by omega), hBK.below hW (by omega), hBR.below hW zb⟩
  clear hBN hBK hBR
  have HS : Hid (∀ W, Below WX.heap.size WX W → Below WX.heap.size WX W ∧ W.cell? ⟨w.heap.size, 0, none⟩ = some (.slice An n.length cn) ∧ W.cell? ⟨w.heap.size + 1, 0, none⟩ = some (.slice Ak by_.length ck)) := fun W hW => ⟨hW, (HB.out W hW).1.cell 0, (HB.out W hW).2.1.cell 0⟩
  have hv0 : Below WX.heap.size WX WX := Below.refl _ _
  have zb1 : w.heap.size < WX.heap.size := by omega
  have zb2 : w.heap.size + 1 < WX.heap.size := by omega
  refine wp_region_noPanic ?_
  refine wp_region_held_drew (S := (fun W => Below w.heap.size w W ∧ W.cell? ⟨w.heap.size, 0, none⟩ = some (.slice An n.length cn) ∧ W.cell? ⟨w.heap.size + 1, 0, none⟩ = some (.slice Ak by_.length ck))) (by kernel_rfl) ?_ (fun hHeld => ?_)
  · exact ⟨(by (repeat' (first | (with_reducible exact Below.refl _ _) | (with_reducible assumption) | (with_reducible refine bel_set ?_ (by (try dsimp only); omega) _) | (with_reducible refine bel_alloc ?_ _) | (with_reducible refine bel_drewN ?_ _) | (with_reducible refine bel_drew ?_) | (with_reducible refine bel_trans ?_ (by assumption)))); done), (HS.out _ (by (repeat' (first | (with_reducible exact Below.refl _ _) | (with_reducible assumption) | (with_reducible refine bel_set ?_ (by (try dsimp only); omega) _) | (with_reducible refine bel_alloc ?_ _) | (with_reducible refine bel_drewN ?_ _) | (with_reducible refine bel_drew ?_) | (with_reducible refine bel_trans ?_ (by assumption)))); done)).2⟩
  refine tk 0 (opN rfl) (by kernel_rfl) (by rfl) (by (intro w hSw; (try dsimp only at hSw); go_simp; first | done | with_reducible rfl)) (by assumption) ?_
  try simp only [Act.put, List.setIfInBounds_toArray, List.set_cons_zero, List.set_cons_succ]
  refine tk 1 (opN rfl) (by kernel_rfl) (by rfl) (by (intro w hSw; (try dsimp only at hSw); go_simp; first | done | with_reducible rfl)) (by assumption) ?_
  try simp only [Act.put, List.setIfInBounds_toArray, List.set_cons_zero, List.set_cons_succ]
  refine tk 2 (opN rfl) (by kernel_rfl) (by rfl) (by (intro w hSw; (try dsimp only at hSw); go_simp; first | done | with_reducible rfl)) (by assumption) ?_
  try simp only [Act.put, List.setIfInBounds_toArray, List.set_cons_zero, List.set_cons_succ]
  refine tk 3 (opN rfl) (by kernel_rfl) (by rfl) (by (intro w hSw; (try dsimp only at hSw); go_simp; first | done | with_reducible rfl)) (by assumption) ?_
  try simp only [Act.put, List.setIfInBounds_toArray, List.set_cons_zero, List.set_cons_succ]
  refine tk 4 (opN rfl) (by kernel_rfl) (by rfl) (by (intro w hSw; (try dsimp only at hSw); go_simp; first | done | with_reducible rfl)) (by assumption) ?_
  try simp only [Act.put, List.setIfInBounds_toArray, List.set_cons_zero, List.set_cons_succ]
  refine tk 6 (opN rfl) (by kernel_rfl) (by rfl) (by (intro w hSw; (try dsimp only at hSw); go_simp; first | done | with_reducible rfl)) (by assumption) ?_
  try simp only [Act.put, List.setIfInBounds_toArray, List.set_cons_zero, List.set_cons_succ]
  refine wpAnyH_ready (rs := [5]) (by kernel_rfl) (by simp) ?_
  refine AllReadyH.cons (opN rfl) (fun K hK => ?_) AllReadyH.nil
  go_simp
  go_at_call 173
  refine (C_spec_KeyDigest _ _ l _ n (Ty.rd_below (by (repeat' (first | (with_reducible exact Below.refl _ _) | (with_reducible assumption) | (with_reducible refine bel_set ?_ (by (try dsimp only); omega) _) | (with_reducible refine bel_alloc ?_ _) | (with_reducible refine bel_drewN ?_ _) | (with_reducible refine bel_drew ?_) | (with_reducible refine bel_trans ?_ (by assumption)))); done) (Ty.rd_below hvb h0)) (Ty.rd_below (by (repeat' (first | (with_reducible exact Below.refl _ _) | (with_reducible assumption) | (with_reducible refine bel_set ?_ (by (try dsimp only); omega) _) | (with_reducible refine bel_alloc ?_ _) | (with_reducible refine bel_drewN ?_ _) | (with_reducible refine bel_drew ?_) | (with_reducible refine bel_trans ?_ (by assumption)))); done) (Ty.rd_below hvb h1)) s0 s1).mono ?_
  rintro e w1 ⟨A1, c1, fp1, rfl, how1, hfr1, hb1⟩
  have hx1 : Below WX.heap.size WX w1 := (by (repeat' (first | (with_reducible exact Below.refl _ _) | (with_reducible assumption) | (with_reducible refine bel_set ?_ (by (try dsimp only); omega) _) | (with_reducible refine bel_alloc ?_ _) | (with_reducible refine bel_drewN ?_ _) | (with_reducible refine bel_drew ?_) | (with_reducible refine bel_trans ?_ (by assumption)))); done)
  refine hK.out _ _ ?_ (fun hHeld => ?_)
  · (try dsimp only)
    exact ⟨(by (repeat' (first | (with_reducible exact Below.refl _ _) | (with_reducible assumption) | (with_reducible refine bel_set ?_ (by (try dsimp only); omega) _) | (with_reducible refine bel_alloc ?_ _) | (with_reducible refine bel_drewN ?_ _) | (with_reducible refine bel_drew ?_) | (with_reducible refine bel_trans ?_ (by assumption)))); done), (HS.out _ (by (repeat' (first | (with_reducible exact Below.refl _ _) | (with_reducible assumption) | (with_reducible refine bel_set ?_ (by (try dsimp only); omega) _) | (with_reducible refine bel_alloc ?_ _) | (with_reducible refine bel_drewN ?_ _) | (with_reducible refine bel_drew ?_) | (with_reducible refine bel_trans ?_ (by assumption)))); done)).2⟩
  clear hK K
  try simp only [Act.put, List.setIfInBounds_toArray, List.set_cons_zero, List.set_cons_succ]
  refine wpAnyH_ready (rs := [7]) (by kernel_rfl) (by simp) ?_
  refine AllReadyH.cons (opN rfl) (fun K hK => ?_) AllReadyH.nil
  go_simp
  go_at_call 148
  refine (C_spec_SignWithKeyB _ _ l _ by_ _ n _ (f_KeyDigest l n) till (Ty.rd_below (by (repeat' (first | (with_reducible exact Below.refl _ _) | (with_reducible assumption) | (with_reducible refine bel_set ?_ (by (try dsimp only); omega) _) | (with_reducible refine bel_alloc ?_ _) | (with_reducible refine bel_drewN ?_ _) | (with_reducible refine bel_drew ?_) | (with_reducible refine bel_trans ?_ (by assumption)))); done) (Ty.rd_below hvb h0)) (Ty.rd_below (by (repeat' (first | (with_reducible exact Below.refl _ _) | (with_reducible assumption) | (with_reducible refine bel_set ?_ (by (try dsimp only); omega) _) | (with_reducible refine bel_alloc ?_ _) | (with_reducible refine bel_drewN ?_ _) | (with_reducible refine bel_drew ?_) | (with_reducible refine bel_trans ?_ (by assumption)))); done) (Ty.rd_below hvb h2)) (Ty.rd_below (by (repeat' (first | (with_reducible exact Below.refl _ _) | (with_reducible assumption) | (with_reducible refine bel_set ?_ (by (try dsimp only); omega) _) | (with_reducible refine bel_alloc ?_ _) | (with_reducible refine bel_drewN ?_ _) | (with_reducible refine bel_drew ?_) | (with_reducible refine bel_trans ?_ (by assumption)))); done) (Ty.rd_below hvb h1)) (Ty.rd_below (by (repeat' (first | (with_reducible exact Below.refl _ _) | (with_reducible assumption) | (with_reducible refine bel_set ?_ (by (try dsimp only); omega) _) | (with_reducible refine bel_alloc ?_ _) | (with_reducible refine bel_drewN ?_ _) | (with_reducible refine bel_drew ?_) | (with_reducible refine bel_trans ?_ (by assumption)))); done) (Ty.ow_rd how1)) s0 s2 s1 hkb i3).mono ?_
  rw [← HF0.out, ← HF1.out]
  rintro e w2 ⟨csx, fpx, rfl, howx, hfrx, hb2⟩
  obtain ⟨Ad0, cd0, Ad1, cd1, Ad2, cd2, rfl⟩ := ow_Data howx
  have hx2 : Below WX.heap.size WX w2 := (by (repeat' (first | (with_reducible exact Below.refl _ _) | (with_reducible assumption) | (with_reducible refine bel_set ?_ (by (try dsimp only); omega) _) | (with_reducible refine bel_alloc ?_ _) | (with_reducible refine bel_drewN ?_ _) | (with_reducible refine bel_drew ?_) | (with_reducible refine bel_trans ?_ (by assumption)))); done)
  have hw2 : Below w.heap.size w w2 := bel_trans hvb hx2
  have hfr2 : FrI WX.heap.size w2.heap.size fpx := hfrx.mono (by have := hx1.size; (try simp only [World.size_drew, size_drewN]); omega) (Nat.le_refl _)
  refine hK.out _ _ ?_ (fun hHeld => ?_)
  · (try dsimp only)
    exact ⟨(by (repeat' (first | (with_reducible exact Below.refl _ _) | (with_reducible assumption) | (with_reducible refine bel_set ?_ (by (try dsimp only); omega) _) | (with_reducible refine bel_alloc ?_ _) | (with_reducible refine bel_drewN ?_ _) | (with_reducible refine bel_drew ?_) | (with_reducible refine bel_trans ?_ (by assumption)))); done), (HS.out _ (by (repeat' (first | (with_reducible exact Below.refl _ _) | (with_reducible assumption) | (with_reducible refine bel_set ?_ (by (try dsimp only); omega) _) | (with_reducible refine bel_alloc ?_ _) | (with_reducible refine bel_drewN ?_ _) | (with_reducible refine bel_drew ?_) | (with_reducible refine bel_trans ?_ (by assumption)))); done)).2⟩
  clear hK K
  try simp only [Act.put, List.setIfInBounds_toArray, List.set_cons_zero, List.set_cons_succ]
  obtain ⟨hN2, hK2, hR2⟩ := HB.out _ hx2
  have kR_2_0 : w2.cell? ⟨w.heap.size + 1 + 1, 0, none⟩ = some (.slice none 0 0) := hR2.cell 0
  have fR_2_0 : w2.frozen? ⟨w.heap.size + 1 + 1, 0, none⟩ = false := hR2.frozen 0
  have kR_2_1 : w2.cell? ⟨w.heap.size + 1 + 1, 1, none⟩ = some (.slice none 0 0) := hR2.cell 1
  have fR_2_1 : w2.frozen? ⟨w.heap.size + 1 + 1, 1, none⟩ = false := hR2.frozen 1
  have kR_2_2 : w2.cell? ⟨w.heap.size + 1 + 1, 2, none⟩ = some (.slice none 0 0) := hR2.cell 2
  have fR_2_2 : w2.frozen? ⟨w.heap.size + 1 + 1, 2, none⟩ = false := hR2.frozen 2
  have kR_2_3 : w2.cell? ⟨w.heap.size + 1 + 1, 3, none⟩ = some (.int .i64 0) := hR2.cell 3
  have fR_2_3 : w2.frozen? ⟨w.heap.size + 1 + 1, 3, none⟩ = false := hR2.frozen 3
  have kR_2_4 : w2.cell? ⟨w.heap.size + 1 + 1, 4, none⟩ = some (.int .i64 0) := hR2.cell 4
  have fR_2_4 : w2.frozen? ⟨w.heap.size + 1 + 1, 4, none⟩ = false := hR2.frozen 4
  have zR_2 : w.heap.size + 1 + 1 < w2.heap.size := hR2.lt
  refine tk 8 (opN rfl) (by kernel_rfl) (by rfl) (by (intro w hSw; (try dsimp only at hSw); go_simp; first | done | with_reducible rfl)) (by assumption) ?_
  try simp only [Act.put, List.setIfInBounds_toArray, List.set_cons_zero, List.set_cons_succ]
  refine tk 9 (opN rfl) (by kernel_rfl) (by rfl) (by (intro w hSw; (try dsimp only at hSw); go_simp; first | done | with_reducible rfl)) (by assumption) ?_
  try simp only [Act.put, List.setIfInBounds_toArray, List.set_cons_zero, List.set_cons_succ]
  refine wpAnyH_ready (rs := [10]) (by kernel_rfl) (by simp) ?_
  refine AllReadyH.cons (opN rfl) (fun K hK => ?_) AllReadyH.nil
  go_simp
  refine hK.out _ _ ?_ (fun hHeld => ?_)
  · (try dsimp only)
    exact ⟨(by (repeat' (first | (with_reducible exact Below.refl _ _) | (with_reducible assumption) | (with_reducible refine bel_set ?_ (by (try dsimp only); omega) _) | (with_reducible refine bel_alloc ?_ _) | (with_reducible refine bel_drewN ?_ _) | (with_reducible refine bel_drew ?_) | (with_reducible refine bel_trans ?_ (by assumption)))); done), ((((((hN2.far (p := ⟨w.heap.size + 1 + 1, 0, none⟩) (by dsimp only; omega) _).far (p := ⟨w.heap.size + 1 + 1, 1, none⟩) (by dsimp only; omega) _).far (p := ⟨w.heap.size + 1 + 1, 2, none⟩) (by dsimp only; omega) _).far (p := ⟨w.heap.size + 1 + 1, 3, none⟩) (by dsimp only; omega) _).far (p := ⟨w.heap.size + 1 + 1, 4, none⟩) (by dsimp only; omega) _).cell 0), ((((((hK2.far (p := ⟨w.heap.size + 1 + 1, 0, none⟩) (by dsimp only; omega) _).far (p := ⟨w.heap.size + 1 + 1, 1, none⟩) (by dsimp only; omega) _).far (p := ⟨w.heap.size + 1 + 1, 2, none⟩) (by dsimp only; omega) _).far (p := ⟨w.heap.size + 1 + 1, 3, none⟩) (by dsimp only; omega) _).far (p := ⟨w.heap.size + 1 + 1, 4, none⟩) (by dsimp only; omega) _).cell 0)⟩
  clear hK K
  try simp only [Act.put, List.setIfInBounds_toArray, List.set_cons_zero, List.set_cons_succ]
  refine tk 11 (opN rfl) (by kernel_rfl) (by rfl) (by (intro w hSw; (try dsimp only at hSw); go_simp; first | done | with_reducible rfl)) (by assumption) ?_
  try simp only [Act.put, List.setIfInBounds_toArray, List.set_cons_zero, List.set_cons_succ]
  refine wpAnyH_done (by kernel_rfl) ?_ _
  refine NoPanic.normal ?_
  go_wp2
  refine bodyPost_ret (v := .tuple #[.agg #[.slice Ad0 (List.length F0.1) cd0, .slice Ad1 (List.length F0.2.1) cd1, .slice Ad2 (List.length F0.2.2.1) cd2, .int .i64 F0.2.2.2.1, .int .i64 F0.2.2.2.2], .bool F1]) (by simp [results, Try.results147, go_sem, kR_2_0, fR_2_0, kR_2_1, fR_2_1, kR_2_2, fR_2_2, kR_2_3, fR_2_3, kR_2_4, fR_2_4, zR_2]) rfl ?_
  refine ⟨_, fpx, rfl, ?_, ?_, ?_⟩
  · exact Ty.ow_keep (by intro b hb'; have hb'' := (hfr2).2 b hb'; (try simp only [World.size_alloc, World.size_setCell, size_drewN, World.size_drew] at hb''); repeat (first | (with_reducible rfl) | (rw [Below.heap_setCell _ _ _ _ (by (try dsimp only); omega)]) | (rw [Below.heap_alloc _ _ _ (by (try simp only [World.size_alloc, World.size_setCell]); omega)]))) howx
  · exact hfr2.mono (by omega) (by (try simp only [World.size_alloc, World.size_setCell, size_drewN, World.size_drew]); omega)
  · exact (by (repeat' (first | (with_reducible exact Below.refl _ _) | (with_reducible assumption) | (with_reducible refine bel_set ?_ (by (try dsimp only); omega) _) | (with_reducible refine bel_alloc ?_ _) | (with_reducible refine bel_drewN ?_ _) | (with_reducible refine bel_drew ?_) | (with_reducible refine bel_trans ?_ (by assumption)))); done)
end Go.Proofs.Ytldgbnlcnlfmeaa

/- Pattern variables. -/
namespace Go.Proofs.Ytldgbnlcnlfmeaa
open Go.RowKit
set_option linter.unusedVariables false
set_option linter.unusedSimpArgs false

theorem isVar_len {s : List UInt8} (h : ¬ s.length = 2) : isVar s = false := by
  match s, h with
  | [], _ => rfl
  | [a], _ => rfl
  | [a, b], h => simp at h
  | a :: b :: c :: l, _ => rfl
theorem isVar_iff (s : List UInt8) (h : s.length = 2) (c0 c1 : Int) (hc0 : c0 = (s[0].toNat : Int)) (hc1 : c1 = (s[1].toNat : Int)) : isVar s = true ↔ c0 = 63 ∧ 97 ≤ c1 ∧ c1 ≤ 122 := by
  match s, h with
  | [a, b], _ =>
    subst hc0; subst hc1
    show isVar [a, b] = true ↔ ((a.toNat : Nat) : Int) = 63 ∧ 97 ≤ ((b.toNat : Nat) : Int) ∧ ((b.toNat : Nat) : Int) ≤ 122
    have e : a = 63 ↔ a.toNat = 63 := ⟨fun h => by rw [h]; rfl, fun h => UInt8.toNat_inj.1 (by rw [h]; rfl)⟩
    simp only [isVar, Bool.and_eq_true, decide_eq_true_eq]
    try rw [e]
    omega
set_option maxHeartbeats 1000000 in
theorem C_impl_isVariable (w : World) (s : List UInt8) (hs : s.length ≤ 9223372036854775807) : Calls Try.prog 193 #[vS s] w (RetBP w (isVar s)) := by
  by_cases h2 : s.length = 2
  · have h0 : 0 < s.length := by omega
    have h1 : 1 < s.length := by omega
    go_enter Try.func193, Try.ntmps193
    go_wp2
    all_goals go_ret
    all_goals exact ⟨ret_bool (by rw [Bool.eq_iff_iff, isVar_iff s h2 _ _ (bytes_at s 0 h0 h0) (bytes_at s 1 h1 h1)]; simp; try omega), rfl⟩
  · have HF := Lib.hid (isVar_len h2)
    go_enter Try.func193, Try.ntmps193
    go_wp2
    go_ret
    exact ⟨ret_bool HF.out.symm, rfl⟩
set_option maxHeartbeats 1000000 in
theorem C_spec_l5Letter (w : World) (s : List UInt8) (hs : s.length ≤ 9223372036854775807) : Calls Try.prog 181 #[vS s] w (RetBP w (isVar s)) := by
  by_cases h2 : s.length = 2
  · have h0 : 0 < s.length := by omega
    have h1 : 1 < s.length := by omega
    have hb1 := bytes_at s 1 h1 h1
    have hlt := s[1].toNat_lt
    go_enter Try.func181, Try.ntmps181
    go_wp2_with fail
    all_goals first
      | (refine (C_spec_l1In _ _ _ _).mono ?_
         rintro e w1 ⟨rfl, rfl⟩
         go_wp2
         all_goals go_ret
         all_goals exact ⟨ret_bool (by rw [Bool.eq_iff_iff, isVar_iff s h2 _ _ (bytes_at s 0 h0 h0) (bytes_at s 1 h1 h1)]; unfold inR; rw [wrap64_in _ (by omega)]; simp; try omega), rfl⟩)
      | (go_wp2
         all_goals go_ret
         all_goals exact ⟨ret_bool (by rw [Bool.eq_iff_iff, isVar_iff s h2 _ _ (bytes_at s 0 h0 h0) (bytes_at s 1 h1 h1)]; simp; try omega), rfl⟩)
  · have HF := Lib.hid (isVar_len h2)
    go_enter Try.func181, Try.ntmps181
    go_wp2
    go_ret
    exact ⟨ret_bool HF.out.symm, rfl⟩
end Go.Proofs.Ytldgbnlcnlfmeaa
