/- Texts of this claim, merged by a program: Swk. -/
import Derived.Test.YtldgbnlcnlfmeaaGreatMf6
import Derived.Test.YtldgbnlcnlfmeaaGreatMf4
/- Data are signed with a key. Printed by gen24.py. -/
namespace Go.Proofs.YtldgbnlcnlfmeaaGreat
open Go.RowKit
set_option linter.unusedVariables false
set_option linter.unusedSimpArgs false

def swkD (by_ n : List (List UInt8)) (b : List UInt8) (till : Int) : tData.D := (n, b, by_, till, 0)
def swkX (l : List (Ty.D tKey)) (by_ n : List (List UInt8)) (b : List UInt8) (till : Int) : tData.D := f_SignData (f_SecretOf l by_) (swkD by_ n b till)
def zeroData : tData.D := ([], [], [], 0, 0)
def f1_SignWithKey (l : List (Ty.D tKey)) (by_ n : List (List UInt8)) (b : List UInt8) (till : Int) : Bool := !(decide (f_SecretOf l by_ = 0)) && f_ValidData (swkX l by_ n b till)
def f0_SignWithKey (l : List (Ty.D tKey)) (by_ n : List (List UInt8)) (b : List UInt8) (till : Int) : tData.D := if f1_SignWithKey l by_ n b till = true then swkX l by_ n b till else zeroData
theorem swk_no {l : List (Ty.D tKey)} {by_ n : List (List UInt8)} {b : List UInt8} {till : Int} (h : f1_SignWithKey l by_ n b till = false) : f0_SignWithKey l by_ n b till = zeroData := by unfold f0_SignWithKey; rw [h]; rfl
theorem swk_yes {l : List (Ty.D tKey)} {by_ n : List (List UInt8)} {b : List UInt8} {till : Int} (h : f1_SignWithKey l by_ n b till = true) : f0_SignWithKey l by_ n b till = swkX l by_ n b till := by unfold f0_SignWithKey; rw [h]; rfl
theorem swk_bulk (by_ n : List (List UInt8)) (b : List UInt8) (till : Int) : Ty.bulk tData (swkD by_ n b till) = Ty.bulk (.sl .str) n + (Ty.bulk (.sl .byte) b + Ty.bulk (.sl .str) by_) := by
  show Ty.bulk (.sl .str) n + (Ty.bulk (.sl .byte) b + (Ty.bulk (.sl .str) by_ + (0 + 0))) = _
  omega
theorem rd_Data_mk {w : World} {x : tData.D} {v0 v1 v2 : Value} (h0 : (Ty.sl .str).rd w [v0] x.1) (h1 : (Ty.sl .byte).rd w [v1] x.2.1) (h2 : (Ty.sl .str).rd w [v2] x.2.2.1) (b3 : -9223372036854775808 ≤ x.2.2.2.1 ∧ x.2.2.2.1 ≤ 9223372036854775807) (b4 : -9223372036854775808 ≤ x.2.2.2.2 ∧ x.2.2.2.2 ≤ 9223372036854775807) :
    tData.rd w [v0, v1, v2, .int .i64 x.2.2.2.1, .int .i64 x.2.2.2.2] x :=
  ⟨[v0], [v1, v2, .int .i64 x.2.2.2.1, .int .i64 x.2.2.2.2], rfl, h0, [v1], [v2, .int .i64 x.2.2.2.1, .int .i64 x.2.2.2.2], rfl, h1, [v2], [.int .i64 x.2.2.2.1, .int .i64 x.2.2.2.2], rfl, h2, [_], [_], rfl, ⟨rfl, b3⟩, ⟨rfl, b4⟩⟩
theorem ow_zeroData (w : World) : tData.ow w [.slice none 0 0, .slice none 0 0, .slice none 0 0, .int .i64 0, .int .i64 0] zeroData ([] ++ ([] ++ ([] ++ ([] ++ [])))) :=
  ow_Data_mk (x := zeroData) (rd_ow_nil w .str) (rd_ow_nil w .byte) (rd_ow_nil w .str) (by decide) (by decide)
theorem fr_zero (lo hi : Nat) : FrI lo hi ([] ++ ([] ++ ([] ++ ([] ++ [])))) := FrI.nil lo hi
set_option maxRecDepth 100000 in
set_option maxHeartbeats 4000000 in
theorem C_impl_SignWithKeyB (w : World) (v0 : Value) (l : List (Ty.D tKey)) (cs1 : List Value) (by_ : List (List UInt8)) (cs2 : List Value) (n : List (List UInt8)) (v3 : Value) (b : List UInt8) (till : Int) (h0 : (Ty.sl tKey).rd w [v0] l) (h1 : (Ty.sl .str).rd w cs1 by_) (h2 : (Ty.sl .str).rd w cs2 n) (h3 : (Ty.sl .byte).rd w [v3] b) (s0 : Ty.bulk (.sl tKey) l ≤ 1048576) (s1 : Ty.bulk (.sl .str) by_ ≤ 1048576) (s2 : Ty.bulk (.sl .str) n ≤ 1048576) (s3 : Ty.bulk (.sl .byte) b ≤ 1048576) (i4 : -9223372036854775808 ≤ till ∧ till ≤ 9223372036854775807) :
    Calls Tryz.prog 34 #[v0, .agg cs1.toArray, .agg cs2.toArray, v3, .int .i64 till] w (RetAgg2 w tData (f0_SignWithKey l by_ n b till) (.bool (f1_SignWithKey l by_ n b till))) := by
  obtain ⟨Ak, ck, rfl⟩ := Ty.rd_slv h1
  obtain ⟨An, cn, rfl⟩ := Ty.rd_slv h2
  obtain ⟨Ab, cb, rfl, _, _, _⟩ := Ty.rd_sl h3
  have hsb := secret_bd by_ h0
  have hbk : Ty.bulk tData (swkD by_ n b till) ≤ 4000000 := by rw [swk_bulk]; omega
  have hX : swkX l by_ n b till = f_SignData (f_SecretOf l by_) (swkD by_ n b till) := rfl
  have hF1 : f1_SignWithKey l by_ n b till = (!(decide (f_SecretOf l by_ = 0)) && f_ValidData (swkX l by_ n b till)) := rfl
  have HNO := Lib.hid (fun h => swk_no (l := l) (by_ := by_) (n := n) (b := b) (till := till) h)
  have HYES := Lib.hid (fun h => swk_yes (l := l) (by_ := by_) (n := n) (b := b) (till := till) h)
  generalize f0_SignWithKey l by_ n b till = F0 at HNO HYES ⊢
  generalize f1_SignWithKey l by_ n b till = F1 at hF1 HNO HYES ⊢
  generalize swkX l by_ n b till = X at hX hF1 HYES
  have HX := Lib.hid hX
  have HF1 := Lib.hid hF1
  clear hX hF1
  have hBK : Blk (((w.alloc (.cells #[.slice Ak by_.length ck] 32)).alloc (.cells #[.slice An n.length cn] 32)).alloc (.cells #[.slice none 0 0, .slice none 0 0, .slice none 0 0, .int .i64 0, .int .i64 0] 34)) (w.heap.size) 32 #[.slice Ak by_.length ck] := ((Blk.new w 32 #[.slice Ak by_.length ck]).alloc _).alloc _
  have hBN : Blk (((w.alloc (.cells #[.slice Ak by_.length ck] 32)).alloc (.cells #[.slice An n.length cn] 32)).alloc (.cells #[.slice none 0 0, .slice none 0 0, .slice none 0 0, .int .i64 0, .int .i64 0] 34)) (w.heap.size + 1) 32 #[.slice An n.length cn] := (show Blk ((w.alloc (.cells #[.slice Ak by_.length ck] 32)).alloc (.cells #[.slice An n.length cn] 32)) (w.heap.size + 1) 32 #[.slice An n.length cn] from by have := Blk.new (w.alloc (.cells #[.slice Ak by_.length ck] 32)) 32 #[.slice An n.length cn]; rwa [World.size_alloc] at this).alloc _
  have hBR : Blk (((w.alloc (.cells #[.slice Ak by_.length ck] 32)).alloc (.cells #[.slice An n.length cn] 32)).alloc (.cells #[.slice none 0 0, .slice none 0 0, .slice none 0 0, .int .i64 0, .int .i64 0] 34)) (w.heap.size + 1 + 1) 34 #[.slice none 0 0, .slice none 0 0, .slice none 0 0, .int .i64 0, .int .i64 0] := by have := Blk.new ((w.alloc (.cells #[.slice Ak by_.length ck] 32)).alloc (.cells #[.slice An n.length cn] 32)) 34 #[.slice none 0 0, .slice none 0 0, .slice none 0 0, .int .i64 0, .int .i64 0]; rwa [World.size_alloc, World.size_alloc] at this
  have hvb : Below w.heap.size w (((w.alloc (.cells #[.slice Ak by_.length ck] 32)).alloc (.cells #[.slice An n.length cn] 32)).alloc (.cells #[.slice none 0 0, .slice none 0 0, .slice none 0 0, .int .i64 0, .int .i64 0] 34)) := (by repeat' (first | (with_reducible exact Below.refl _ _) | (with_reducible assumption) | (with_reducible refine bel_set ?_ (by (try dsimp only); omega) _) | (with_reducible refine bel_alloc ?_ _) | (with_reducible refine bel_drewN ?_ _) | (with_reducible refine bel_drew ?_)))
  have zb : w.heap.size + 1 + 1 < (((w.alloc (.cells #[.slice Ak by_.length ck] 32)).alloc (.cells #[.slice An n.length cn] 32)).alloc (.cells #[.slice none 0 0, .slice none 0 0, .slice none 0 0, .int .i64 0, .int .i64 0] 34)).heap.size := by simp only [World.size_alloc]; omega
  go_enter Tryz.func34, Tryz.ntmps34
  go_wp2_with fail
  generalize (((w.alloc (.cells #[.slice Ak by_.length ck] 32)).alloc (.cells #[.slice An n.length cn] 32)).alloc (.cells #[.slice none 0 0, .slice none 0 0, .slice none 0 0, .int .i64 0, .int .i64 0] 34)) = WX at hBK hBN hBR hvb zb ⊢
  have HB : Hid (∀ W, Below WX.heap.size WX W → Blk W (w.heap.size) 32 #[.slice Ak by_.length ck] ∧ Blk W (w.heap.size + 1) 32 #[.slice An n.length cn] ∧ Blk W (w.heap.size + 1 + 1) 34 #[.slice none 0 0, .slice none 0 0, .slice none 0 0, .int .i64 0, .int .i64 0]) := fun W hW => ⟨hBK.below hW (by omega), hBN.below hW (by omega), hBR.below hW zb⟩
  clear hBK hBN hBR
  refine (C_impl_SecretOf _ _ l _ by_ (Ty.rd_below hvb h0) (Ty.rd_below hvb h1) s0 s1).mono ?_
  rintro e w1 ⟨rfl, hb1⟩
  have hw1 : Below w.heap.size w w1 := bel_trans hvb hb1
  obtain ⟨hK1, hN1, hR1⟩ := HB.out _ (hb1)
  have kK_1_0 : w1.cell? ⟨w.heap.size, 0, none⟩ = some (.slice Ak by_.length ck) := hK1.cell 0
  have zK_1 : w.heap.size < w1.heap.size := hK1.lt
  have kN_1_0 : w1.cell? ⟨w.heap.size + 1, 0, none⟩ = some (.slice An n.length cn) := hN1.cell 0
  have zN_1 : w.heap.size + 1 < w1.heap.size := hN1.lt
  go_wp2_with fail
  refine (C_impl_SignDataB _ _ _ (swkD by_ n b till) (rd_Data_mk (x := swkD by_ n b till) (Ty.rd_below hw1 h2) (Ty.rd_below hw1 h3) (Ty.rd_below hw1 h1) i4 (by show _ ≤ (0 : Int) ∧ (0 : Int) ≤ _; decide)) hsb hbk).mono ?_
  rw [← HX.out]
  rintro e w2 ⟨csx, fpx, rfl, howx, hfrx, hb2⟩
  obtain ⟨Ad0, cd0, Ad1, cd1, Ad2, cd2, rfl⟩ := ow_Data howx
  have hx2 : Below WX.heap.size WX w2 := bel_trans hb1 hb2
  have hw2 : Below w.heap.size w w2 := bel_trans hvb hx2
  have hs1 := hb1.size
  have hs2 := hb2.size
  clear kK_1_0 kN_1_0
  obtain ⟨hK2, hN2, hR2⟩ := HB.out _ (hx2)
  have kR_2_0 : w2.cell? ⟨w.heap.size + 1 + 1, 0, none⟩ = some (.slice none 0 0) := hR2.cell 0
  have fR_2_0 : w2.frozen? ⟨w.heap.size + 1 + 1, 0, none⟩ = false := hR2.frozen 0
  have kR_2_1 : w2.cell? ⟨w.heap.size + 1 + 1, 1, none⟩ = some (.slice none 0 0) := hR2.cell 1
  have fR_2_1 : w2.frozen? ⟨w.heap.size + 1 + 1, 1, none⟩ = false := hR2.frozen 1
  have kR_2_2 : w2.cell? ⟨w.heap.size + 1 + 1, 2, none⟩ = some (.slice none 0 0) := hR2.cell 2
  have fR_2_2 : w2.frozen? ⟨w.heap.size + 1 + 1, 2, none⟩ = false := hR2.frozen 2
  have kR_2_3 : w2.cell? ⟨w.heap.size + 1 + 1, 3, none⟩ = some (.int .i64 0) := hR2.cell 3
  have fR_2_3 : w2.frozen? ⟨w.heap.size + 1 + 1, 3, none⟩ = false := hR2.frozen 3
  have kR_2_4 : w2.cell? ⟨w.heap.size + 1 + 1, 4, none⟩ = some (.int .i64 0) := hR2.cell 4
  have fR_2_4 : w2.frozen? ⟨w.heap.size + 1 + 1, 4, none⟩ = false := hR2.frozen 4
  have zR_2 : w.heap.size + 1 + 1 < w2.heap.size := hR2.lt
  by_cases hz : f_SecretOf l by_ = 0
  · have q0 : (f_SecretOf l by_ == 0) = true := by simp [hz]
    have HFF : Hid (F1 = false) := by show _ = _; rw [HF1.out, hz]; rfl
    clear hz
    go_wp2
    refine bodyPost_ret (v := .tuple #[.agg #[.slice none 0 0, .slice none 0 0, .slice none 0 0, .int .i64 0, .int .i64 0], .bool false]) (by simp [results, Tryz.results34, go_sem, kR_2_0, fR_2_0, kR_2_1, fR_2_1, kR_2_2, fR_2_2, kR_2_3, fR_2_3, kR_2_4, fR_2_4, zR_2]) rfl ?_
    rw [HNO.out HFF.out, HFF.out]
    exact ⟨_, _, rfl, ow_zeroData _, fr_zero _ _, (by repeat' (first | (with_reducible exact Below.refl _ _) | (with_reducible assumption) | (with_reducible refine bel_set ?_ (by (try dsimp only); omega) _) | (with_reducible refine bel_alloc ?_ _) | (with_reducible refine bel_drewN ?_ _) | (with_reducible refine bel_drew ?_)))⟩
  have q0 : (f_SecretOf l by_ == 0) = false := by simp [hz]
  have HZ : Hid (decide (f_SecretOf l by_ = 0) = false) := by show _ = _; simp [hz]
  clear hz
  go_wp2_with fail
  refine (C_impl_ValidDataG _ _ X (Ty.rd_below (by repeat' (first | (with_reducible exact Below.refl _ _) | (with_reducible assumption) | (with_reducible refine bel_set ?_ (by (try dsimp only); omega) _) | (with_reducible refine bel_alloc ?_ _) | (with_reducible refine bel_drewN ?_ _) | (with_reducible refine bel_drew ?_))) (Ty.ow_rd howx))).mono ?_
  rintro e w3 ⟨rfl, hb3⟩
  have hz3 := hb3.size
  simp only [World.size_alloc] at hz3
  have hx3 : Below WX.heap.size WX w3 := bel_trans (bel_alloc hx2 _) hb3
  have hw3 : Below w.heap.size w w3 := bel_trans hvb hx3
  clear kR_2_0 fR_2_0 kR_2_1 fR_2_1 kR_2_2 fR_2_2 kR_2_3 fR_2_3 kR_2_4 fR_2_4
  obtain ⟨hK3, hN3, hR3⟩ := HB.out _ (hx3)
  have hX3 : Blk w3 w2.heap.size 34 #[.slice Ad0 (List.length X.1) cd0, .slice Ad1 (List.length X.2.1) cd1, .slice Ad2 (List.length X.2.2.1) cd2, .int .i64 X.2.2.2.1, .int .i64 X.2.2.2.2] := (Blk.new w2 34 #[.slice Ad0 (List.length X.1) cd0, .slice Ad1 (List.length X.2.1) cd1, .slice Ad2 (List.length X.2.2.1) cd2, .int .i64 X.2.2.2.1, .int .i64 X.2.2.2.2]).below hb3 (by simp only [World.size_alloc]; omega)
  have kR_3_0 : w3.cell? ⟨w.heap.size + 1 + 1, 0, none⟩ = some (.slice none 0 0) := hR3.cell 0
  have fR_3_0 : w3.frozen? ⟨w.heap.size + 1 + 1, 0, none⟩ = false := hR3.frozen 0
  have kR_3_1 : w3.cell? ⟨w.heap.size + 1 + 1, 1, none⟩ = some (.slice none 0 0) := hR3.cell 1
  have fR_3_1 : w3.frozen? ⟨w.heap.size + 1 + 1, 1, none⟩ = false := hR3.frozen 1
  have kR_3_2 : w3.cell? ⟨w.heap.size + 1 + 1, 2, none⟩ = some (.slice none 0 0) := hR3.cell 2
  have fR_3_2 : w3.frozen? ⟨w.heap.size + 1 + 1, 2, none⟩ = false := hR3.frozen 2
  have kR_3_3 : w3.cell? ⟨w.heap.size + 1 + 1, 3, none⟩ = some (.int .i64 0) := hR3.cell 3
  have fR_3_3 : w3.frozen? ⟨w.heap.size + 1 + 1, 3, none⟩ = false := hR3.frozen 3
  have kR_3_4 : w3.cell? ⟨w.heap.size + 1 + 1, 4, none⟩ = some (.int .i64 0) := hR3.cell 4
  have fR_3_4 : w3.frozen? ⟨w.heap.size + 1 + 1, 4, none⟩ = false := hR3.frozen 4
  have zR_3 : w.heap.size + 1 + 1 < w3.heap.size := hR3.lt
  have kX_3_0 : w3.cell? ⟨w2.heap.size, 0, none⟩ = some (.slice Ad0 (List.length X.1) cd0) := hX3.cell 0
  have fX_3_0 : w3.frozen? ⟨w2.heap.size, 0, none⟩ = false := hX3.frozen 0
  have kX_3_1 : w3.cell? ⟨w2.heap.size, 1, none⟩ = some (.slice Ad1 (List.length X.2.1) cd1) := hX3.cell 1
  have fX_3_1 : w3.frozen? ⟨w2.heap.size, 1, none⟩ = false := hX3.frozen 1
  have kX_3_2 : w3.cell? ⟨w2.heap.size, 2, none⟩ = some (.slice Ad2 (List.length X.2.2.1) cd2) := hX3.cell 2
  have fX_3_2 : w3.frozen? ⟨w2.heap.size, 2, none⟩ = false := hX3.frozen 2
  have kX_3_3 : w3.cell? ⟨w2.heap.size, 3, none⟩ = some (.int .i64 X.2.2.2.1) := hX3.cell 3
  have fX_3_3 : w3.frozen? ⟨w2.heap.size, 3, none⟩ = false := hX3.frozen 3
  have kX_3_4 : w3.cell? ⟨w2.heap.size, 4, none⟩ = some (.int .i64 X.2.2.2.2) := hX3.cell 4
  have fX_3_4 : w3.frozen? ⟨w2.heap.size, 4, none⟩ = false := hX3.frozen 4
  have zX_3 : w2.heap.size < w3.heap.size := hX3.lt
  cases q1 : f_ValidData X
  · have HFF : Hid (F1 = false) := by show _ = _; rw [HF1.out, HZ.out, q1]; rfl
    clear q1
    go_wp2
    refine bodyPost_ret (v := .tuple #[.agg #[.slice none 0 0, .slice none 0 0, .slice none 0 0, .int .i64 0, .int .i64 0], .bool false]) (by simp [results, Tryz.results34, go_sem, kR_3_0, fR_3_0, kR_3_1, fR_3_1, kR_3_2, fR_3_2, kR_3_3, fR_3_3, kR_3_4, fR_3_4, kX_3_0, fX_3_0, kX_3_1, fX_3_1, kX_3_2, fX_3_2, kX_3_3, fX_3_3, kX_3_4, fX_3_4, zR_3, zX_3]) rfl ?_
    rw [HNO.out HFF.out, HFF.out]
    exact ⟨_, _, rfl, ow_zeroData _, fr_zero _ _, (by repeat' (first | (with_reducible exact Below.refl _ _) | (with_reducible assumption) | (with_reducible refine bel_set ?_ (by (try dsimp only); omega) _) | (with_reducible refine bel_alloc ?_ _) | (with_reducible refine bel_drewN ?_ _) | (with_reducible refine bel_drew ?_)))⟩
  · have HFF : Hid (F1 = true) := by show _ = _; rw [HF1.out, HZ.out, q1]; rfl
    clear q1
    go_wp2
    refine bodyPost_ret (v := .tuple #[.agg #[.slice Ad0 (List.length X.1) cd0, .slice Ad1 (List.length X.2.1) cd1, .slice Ad2 (List.length X.2.2.1) cd2, .int .i64 X.2.2.2.1, .int .i64 X.2.2.2.2], .bool true]) (by simp [results, Tryz.results34, go_sem, kR_3_0, fR_3_0, kR_3_1, fR_3_1, kR_3_2, fR_3_2, kR_3_3, fR_3_3, kR_3_4, fR_3_4, kX_3_0, fX_3_0, kX_3_1, fX_3_1, kX_3_2, fX_3_2, kX_3_3, fX_3_3, kX_3_4, fX_3_4, zR_3, zX_3]) rfl ?_
    rw [HYES.out HFF.out, HFF.out]
    exact ⟨_, fpx, rfl, Ty.ow_keep (by intro b hb'; have hb'' := (hfrx).2 b hb'; (try simp only [World.size_alloc, World.size_setCell, size_drewN, World.size_drew] at hb''); repeat (first | (with_reducible rfl) | (rw [Below.heap_setCell _ _ _ _ (by (try dsimp only); omega)]) | (rw [Below.heap_alloc _ _ _ (by (try simp only [World.size_alloc, World.size_setCell]); omega)]) | (rw [hb3.block _ (by (try simp only [World.size_alloc, World.size_setCell, size_drewN, World.size_drew]); omega)]))) howx, hfrx.mono (by have := hw1.size; omega) (by (try simp only [World.size_alloc, World.size_setCell, size_drewN, World.size_drew]); omega), (by repeat' (first | (with_reducible exact Below.refl _ _) | (with_reducible assumption) | (with_reducible refine bel_set ?_ (by (try dsimp only); omega) _) | (with_reducible refine bel_alloc ?_ _) | (with_reducible refine bel_drewN ?_ _) | (with_reducible refine bel_drew ?_)))⟩
set_option maxRecDepth 100000 in
set_option maxHeartbeats 4000000 in
theorem C_spec_SignWithKeyB (w : World) (v0 : Value) (l : List (Ty.D tKey)) (cs1 : List Value) (by_ : List (List UInt8)) (cs2 : List Value) (n : List (List UInt8)) (v3 : Value) (b : List UInt8) (till : Int) (h0 : (Ty.sl tKey).rd w [v0] l) (h1 : (Ty.sl .str).rd w cs1 by_) (h2 : (Ty.sl .str).rd w cs2 n) (h3 : (Ty.sl .byte).rd w [v3] b) (s0 : Ty.bulk (.sl tKey) l ≤ 1048576) (s1 : Ty.bulk (.sl .str) by_ ≤ 1048576) (s2 : Ty.bulk (.sl .str) n ≤ 1048576) (s3 : Ty.bulk (.sl .byte) b ≤ 1048576) (i4 : -9223372036854775808 ≤ till ∧ till ≤ 9223372036854775807) :
    Calls Tryz.prog 36 #[v0, .agg cs1.toArray, .agg cs2.toArray, v3, .int .i64 till] w (RetAgg2 w tData (f0_SignWithKey l by_ n b till) (.bool (f1_SignWithKey l by_ n b till))) := by
  obtain ⟨Ak, ck, rfl⟩ := Ty.rd_slv h1
  obtain ⟨An, cn, rfl⟩ := Ty.rd_slv h2
  obtain ⟨Ab, cb, rfl, _, _, _⟩ := Ty.rd_sl h3
  have hsb := secret_bd by_ h0
  have hbk : Ty.bulk tData (swkD by_ n b till) ≤ 4000000 := by rw [swk_bulk]; omega
  have hX : swkX l by_ n b till = f_SignData (f_SecretOf l by_) (swkD by_ n b till) := rfl
  have hF1 : f1_SignWithKey l by_ n b till = (!(decide (f_SecretOf l by_ = 0)) && f_ValidData (swkX l by_ n b till)) := rfl
  have HNO := Lib.hid (fun h => swk_no (l := l) (by_ := by_) (n := n) (b := b) (till := till) h)
  have HYES := Lib.hid (fun h => swk_yes (l := l) (by_ := by_) (n := n) (b := b) (till := till) h)
  generalize f0_SignWithKey l by_ n b till = F0 at HNO HYES ⊢
  generalize f1_SignWithKey l by_ n b till = F1 at hF1 HNO HYES ⊢
  generalize swkX l by_ n b till = X at hX hF1 HYES
  have HX := Lib.hid hX
  have HF1 := Lib.hid hF1
  clear hX hF1
  have hBK : Blk (((w.alloc (.cells #[.slice Ak by_.length ck] 32)).alloc (.cells #[.slice An n.length cn] 32)).alloc (.cells #[.slice none 0 0, .slice none 0 0, .slice none 0 0, .int .i64 0, .int .i64 0] 34)) (w.heap.size) 32 #[.slice Ak by_.length ck] := ((Blk.new w 32 #[.slice Ak by_.length ck]).alloc _).alloc _
  have hBN : Blk (((w.alloc (.cells #[.slice Ak by_.length ck] 32)).alloc (.cells #[.slice An n.length cn] 32)).alloc (.cells #[.slice none 0 0, .slice none 0 0, .slice none 0 0, .int .i64 0, .int .i64 0] 34)) (w.heap.size + 1) 32 #[.slice An n.length cn] := (show Blk ((w.alloc (.cells #[.slice Ak by_.length ck] 32)).alloc (.cells #[.slice An n.length cn] 32)) (w.heap.size + 1) 32 #[.slice An n.length cn] from by have := Blk.new (w.alloc (.cells #[.slice Ak by_.length ck] 32)) 32 #[.slice An n.length cn]; rwa [World.size_alloc] at this).alloc _
  have hBR : Blk (((w.alloc (.cells #[.slice Ak by_.length ck] 32)).alloc (.cells #[.slice An n.length cn] 32)).alloc (.cells #[.slice none 0 0, .slice none 0 0, .slice none 0 0, .int .i64 0, .int .i64 0] 34)) (w.heap.size + 1 + 1) 34 #[.slice none 0 0, .slice none 0 0, .slice none 0 0, .int .i64 0, .int .i64 0] := by have := Blk.new ((w.alloc (.cells #[.slice Ak by_.length ck] 32)).alloc (.cells #[.slice An n.length cn] 32)) 34 #[.slice none 0 0, .slice none 0 0, .slice none 0 0, .int .i64 0, .int .i64 0]; rwa [World.size_alloc, World.size_alloc] at this
  have hvb : Below w.heap.size w (((w.alloc (.cells #[.slice Ak by_.length ck] 32)).alloc (.cells #[.slice An n.length cn] 32)).alloc (.cells #[.slice none 0 0, .slice none 0 0, .slice none 0 0, .int .i64 0, .int .i64 0] 34)) := (by repeat' (first | (with_reducible exact Below.refl _ _) | (with_reducible assumption) | (with_reducible refine bel_set ?_ (by (try dsimp only); omega) _) | (with_reducible refine bel_alloc ?_ _) | (with_reducible refine bel_drewN ?_ _) | (with_reducible refine bel_drew ?_)))
  have zb : w.heap.size + 1 + 1 < (((w.alloc (.cells #[.slice Ak by_.length ck] 32)).alloc (.cells #[.slice An n.length cn] 32)).alloc (.cells #[.slice none 0 0, .slice none 0 0, .slice none 0 0, .int .i64 0, .int .i64 0] 34)).heap.size := by simp only [World.size_alloc]; omega
  go_enter Tryz.func36, Tryz.ntmps36
  go_wp2_with fail
  generalize (((w.alloc (.cells #[.slice Ak by_.length ck] 32)).alloc (.cells #[.slice An n.length cn] 32)).alloc (.cells #[.slice none 0 0, .slice none 0 0, .slice none 0 0, .int .i64 0, .int .i64 0] 34)) = WX at hBK hBN hBR hvb zb ⊢
  have HB : Hid (∀ W, Below WX.heap.size WX W → Blk W (w.heap.size) 32 #[.slice Ak by_.length ck] ∧ Blk W (w.heap.size + 1) 32 #[.slice An n.length cn] ∧ Blk W (w.heap.size + 1 + 1) 34 #[.slice none 0 0, .slice none 0 0, .slice none 0 0, .int .i64 0, .int .i64 0]) := fun W hW => ⟨hBK.below hW (by omega), hBN.below hW (by omega), hBR.below hW zb⟩
  clear hBK hBN hBR
  have HS : Hid (∀ W, Below WX.heap.size WX W → Below WX.heap.size WX W ∧ W.cell? ⟨w.heap.size, 0, none⟩ = some (.slice Ak by_.length ck) ∧ W.cell? ⟨w.heap.size + 1, 0, none⟩ = some (.slice An n.length cn)) := fun W hW => ⟨hW, (HB.out W hW).1.cell 0, (HB.out W hW).2.1.cell 0⟩
  have hv0 : Below WX.heap.size WX WX := Below.refl _ _
  have zb1 : w.heap.size < WX.heap.size := by omega
  have zb2 : w.heap.size + 1 < WX.heap.size := by omega
  refine wp_region_noPanic ?_
  refine wp_region_held_drew (S := (fun W => Below WX.heap.size WX W ∧ W.cell? ⟨w.heap.size, 0, none⟩ = some (.slice Ak by_.length ck) ∧ W.cell? ⟨w.heap.size + 1, 0, none⟩ = some (.slice An n.length cn))) (by kernel_rfl) ?_ (fun hHeld => ?_)
  · exact HS.out _ (by (repeat' (first | (with_reducible exact Below.refl _ _) | (with_reducible assumption) | (with_reducible refine bel_set ?_ (by (try dsimp only); omega) _) | (with_reducible refine bel_alloc ?_ _) | (with_reducible refine bel_drewN ?_ _) | (with_reducible refine bel_drew ?_) | (with_reducible refine bel_trans ?_ (by assumption)))); done)
  refine tk 0 (opN rfl) (by kernel_rfl) (by rfl) (by (intro w hSw; (try dsimp only at hSw); go_simp; first | done | with_reducible rfl)) (by assumption) ?_
  try simp only [Act.put, List.setIfInBounds_toArray, List.set_cons_zero, List.set_cons_succ]
  refine tk 1 (opN rfl) (by kernel_rfl) (by rfl) (by (intro w hSw; (try dsimp only at hSw); go_simp; first | done | with_reducible rfl)) (by assumption) ?_
  try simp only [Act.put, List.setIfInBounds_toArray, List.set_cons_zero, List.set_cons_succ]
  refine tk 3 (opN rfl) (by kernel_rfl) (by rfl) (by (intro w hSw; (try dsimp only at hSw); go_simp; first | done | with_reducible rfl)) (by assumption) ?_
  try simp only [Act.put, List.setIfInBounds_toArray, List.set_cons_zero, List.set_cons_succ]
  refine tk 4 (opN rfl) (by kernel_rfl) (by rfl) (by (intro w hSw; (try dsimp only at hSw); go_simp; first | done | with_reducible rfl)) (by assumption) ?_
  try simp only [Act.put, List.setIfInBounds_toArray, List.set_cons_zero, List.set_cons_succ]
  refine tk 5 (opN rfl) (by kernel_rfl) (by rfl) (by (intro w hSw; (try dsimp only at hSw); go_simp; first | done | with_reducible rfl)) (by assumption) ?_
  try simp only [Act.put, List.setIfInBounds_toArray, List.set_cons_zero, List.set_cons_succ]
  refine tk 6 (opN rfl) (by kernel_rfl) (by rfl) (by (intro w hSw; (try dsimp only at hSw); go_simp; first | done | with_reducible rfl)) (by assumption) ?_
  try simp only [Act.put, List.setIfInBounds_toArray, List.set_cons_zero, List.set_cons_succ]
  refine tk 7 (opN rfl) (by kernel_rfl) (by rfl) (by (intro w hSw; (try dsimp only at hSw); go_simp; first | done | with_reducible rfl)) (by assumption) ?_
  try simp only [Act.put, List.setIfInBounds_toArray, List.set_cons_zero, List.set_cons_succ]
  refine wpAnyH_ready (rs := [2, 9]) (by kernel_rfl) (by simp) ?_
  refine AllReadyH.cons (opN rfl) (fun K hK => ?_) (AllReadyH.cons (opN rfl) (fun K hK => ?_) AllReadyH.nil)
  · go_simp
    go_at_call 48
    refine (C_spec_SecretOf _ _ l _ by_ (Ty.rd_below (by (repeat' (first | (with_reducible exact Below.refl _ _) | (with_reducible assumption) | (with_reducible refine bel_set ?_ (by (try dsimp only); omega) _) | (with_reducible refine bel_alloc ?_ _) | (with_reducible refine bel_drewN ?_ _) | (with_reducible refine bel_drew ?_) | (with_reducible refine bel_trans ?_ (by assumption)))); done) (Ty.rd_below hvb h0)) (Ty.rd_below (by (repeat' (first | (with_reducible exact Below.refl _ _) | (with_reducible assumption) | (with_reducible refine bel_set ?_ (by (try dsimp only); omega) _) | (with_reducible refine bel_alloc ?_ _) | (with_reducible refine bel_drewN ?_ _) | (with_reducible refine bel_drew ?_) | (with_reducible refine bel_trans ?_ (by assumption)))); done) (Ty.rd_below hvb h1)) s0 s1).mono ?_
    rintro e w1 ⟨rfl, hb1⟩
    have hx1 : Below WX.heap.size WX w1 := (by (repeat' (first | (with_reducible exact Below.refl _ _) | (with_reducible assumption) | (with_reducible refine bel_set ?_ (by (try dsimp only); omega) _) | (with_reducible refine bel_alloc ?_ _) | (with_reducible refine bel_drewN ?_ _) | (with_reducible refine bel_drew ?_) | (with_reducible refine bel_trans ?_ (by assumption)))); done)
    refine hK.out _ _ ?_ (fun hHeld => ?_)
    · (try dsimp only)
      exact HS.out _ (by (repeat' (first | (with_reducible exact Below.refl _ _) | (with_reducible assumption) | (with_reducible refine bel_set ?_ (by (try dsimp only); omega) _) | (with_reducible refine bel_alloc ?_ _) | (with_reducible refine bel_drewN ?_ _) | (with_reducible refine bel_drew ?_) | (with_reducible refine bel_trans ?_ (by assumption)))); done)
    clear hK K
    try simp only [Act.put, List.setIfInBounds_toArray, List.set_cons_zero, List.set_cons_succ]
    refine wpAnyH_ready (rs := [8, 9]) (by kernel_rfl) (by simp) ?_
    refine AllReadyH.cons (opN rfl) (fun K hK => ?_) (AllReadyH.cons (opN rfl) (fun K hK => ?_) AllReadyH.nil)
    · go_simp
      go_at_call 96
      refine (C_spec_SignDataB _ _ _ (swkD by_ n b till) (rd_Data_mk (x := swkD by_ n b till) (Ty.rd_below (by (repeat' (first | (with_reducible exact Below.refl _ _) | (with_reducible assumption) | (with_reducible refine bel_set ?_ (by (try dsimp only); omega) _) | (with_reducible refine bel_alloc ?_ _) | (with_reducible refine bel_drewN ?_ _) | (with_reducible refine bel_drew ?_) | (with_reducible refine bel_trans ?_ (by assumption)))); done) (Ty.rd_below hvb h2)) (Ty.rd_below (by (repeat' (first | (with_reducible exact Below.refl _ _) | (with_reducible assumption) | (with_reducible refine bel_set ?_ (by (try dsimp only); omega) _) | (with_reducible refine bel_alloc ?_ _) | (with_reducible refine bel_drewN ?_ _) | (with_reducible refine bel_drew ?_) | (with_reducible refine bel_trans ?_ (by assumption)))); done) (Ty.rd_below hvb h3)) (Ty.rd_below (by (repeat' (first | (with_reducible exact Below.refl _ _) | (with_reducible assumption) | (with_reducible refine bel_set ?_ (by (try dsimp only); omega) _) | (with_reducible refine bel_alloc ?_ _) | (with_reducible refine bel_drewN ?_ _) | (with_reducible refine bel_drew ?_) | (with_reducible refine bel_trans ?_ (by assumption)))); done) (Ty.rd_below hvb h1)) i4 (by show _ ≤ (0 : Int) ∧ (0 : Int) ≤ _; decide)) hsb hbk).mono ?_
      rw [← HX.out]
      rintro e w2 ⟨csx, fpx, rfl, howx, hfrx, hb2⟩
      obtain ⟨Ad0, cd0, Ad1, cd1, Ad2, cd2, rfl⟩ := ow_Data howx
      have hx2 : Below WX.heap.size WX w2 := (by (repeat' (first | (with_reducible exact Below.refl _ _) | (with_reducible assumption) | (with_reducible refine bel_set ?_ (by (try dsimp only); omega) _) | (with_reducible refine bel_alloc ?_ _) | (with_reducible refine bel_drewN ?_ _) | (with_reducible refine bel_drew ?_) | (with_reducible refine bel_trans ?_ (by assumption)))); done)
      refine hK.out _ _ ?_ (fun hHeld => ?_)
      · (try dsimp only)
        exact HS.out _ (by (repeat' (first | (with_reducible exact Below.refl _ _) | (with_reducible assumption) | (with_reducible refine bel_set ?_ (by (try dsimp only); omega) _) | (with_reducible refine bel_alloc ?_ _) | (with_reducible refine bel_drewN ?_ _) | (with_reducible refine bel_drew ?_) | (with_reducible refine bel_trans ?_ (by assumption)))); done)
      clear hK K
      try simp only [Act.put, List.setIfInBounds_toArray, List.set_cons_zero, List.set_cons_succ]
      have hzs1 := hb1.size
      have hzs2 := hb2.size
      try simp only [World.size_alloc, World.size_drew, size_drewN] at hzs1 hzs2
      refine wpAnyH_ready (rs := [9]) (by kernel_rfl) (by simp) ?_
      refine (AllReadyH.cons (opN rfl) (fun K hK => ?_) AllReadyH.nil)
      go_simp
      refine hK.out _ _ ?_ (fun hHeld => ?_)
      · (try dsimp only)
        exact HS.out _ (by (repeat' (first | (with_reducible exact Below.refl _ _) | (with_reducible assumption) | (with_reducible refine bel_set ?_ (by (try dsimp only); omega) _) | (with_reducible refine bel_alloc ?_ _) | (with_reducible refine bel_drewN ?_ _) | (with_reducible refine bel_drew ?_) | (with_reducible refine bel_trans ?_ (by assumption)))); done)
      clear hK K
      try simp only [Act.put, List.setIfInBounds_toArray, List.set_cons_zero, List.set_cons_succ]
      refine wpAnyH_ready (rs := [10]) (by kernel_rfl) (by simp) ?_
      refine (AllReadyH.cons (opN rfl) (fun K hK => ?_) AllReadyH.nil)
      go_simp
      refine hK.out _ _ ?_ (fun hHeld => ?_)
      · (try dsimp only)
        exact HS.out _ (by (repeat' (first | (with_reducible exact Below.refl _ _) | (with_reducible assumption) | (with_reducible refine bel_set ?_ (by (try dsimp only); omega) _) | (with_reducible refine bel_alloc ?_ _) | (with_reducible refine bel_drewN ?_ _) | (with_reducible refine bel_drew ?_) | (with_reducible refine bel_trans ?_ (by assumption)))); done)
      clear hK K
      try simp only [Act.put, List.setIfInBounds_toArray, List.set_cons_zero, List.set_cons_succ]
      refine wpAnyH_done (by kernel_rfl) ?_ _
      refine NoPanic.normal ?_
      go_wp2_with fail
      refine (C_spec_SecretOf _ _ l _ by_ (Ty.rd_below (by (repeat' (first | (with_reducible exact Below.refl _ _) | (with_reducible assumption) | (with_reducible refine bel_set ?_ (by (try dsimp only); omega) _) | (with_reducible refine bel_alloc ?_ _) | (with_reducible refine bel_drewN ?_ _) | (with_reducible refine bel_drew ?_) | (with_reducible refine bel_trans ?_ (by assumption)))); done) (Ty.rd_below hvb h0)) (Ty.rd_below (by (repeat' (first | (with_reducible exact Below.refl _ _) | (with_reducible assumption) | (with_reducible refine bel_set ?_ (by (try dsimp only); omega) _) | (with_reducible refine bel_alloc ?_ _) | (with_reducible refine bel_drewN ?_ _) | (with_reducible refine bel_drew ?_) | (with_reducible refine bel_trans ?_ (by assumption)))); done) (Ty.rd_below hvb h1)) s0 s1).mono ?_
      rintro e w4 ⟨rfl, hb4⟩
      have hz4 := hb4.size
      try simp only [World.size_alloc, World.size_setCell, World.size_drew, size_drewN] at hz4
      have hx4 : Below WX.heap.size WX w4 := (by (repeat' (first | (with_reducible exact Below.refl _ _) | (with_reducible assumption) | (with_reducible refine bel_set ?_ (by (try dsimp only); omega) _) | (with_reducible refine bel_alloc ?_ _) | (with_reducible refine bel_drewN ?_ _) | (with_reducible refine bel_drew ?_) | (with_reducible refine bel_trans ?_ (by assumption)))); done)
      have hw4 : Below w.heap.size w w4 := bel_trans hvb hx4
      have hX4 : Blk w4 (w2.heap.size) 34 #[.slice Ad0 (List.length X.1) cd0, .slice Ad1 (List.length X.2.1) cd1, .slice Ad2 (List.length X.2.2.1) cd2, .int .i64 X.2.2.2.1, .int .i64 X.2.2.2.2] := by
        refine Blk.below (w := _) (B := _) ?_ hb4 (by simp only [World.size_alloc, World.size_setCell, World.size_drew, size_drewN]; omega)
        exact Blk.new _ _ _
      obtain ⟨hK4, hN4, hR4⟩ := HB.out _ (hx4)
      have kR_4_0 : w4.cell? ⟨w.heap.size + 1 + 1, 0, none⟩ = some (.slice none 0 0) := hR4.cell 0
      have fR_4_0 : w4.frozen? ⟨w.heap.size + 1 + 1, 0, none⟩ = false := hR4.frozen 0
      have kR_4_1 : w4.cell? ⟨w.heap.size + 1 + 1, 1, none⟩ = some (.slice none 0 0) := hR4.cell 1
      have fR_4_1 : w4.frozen? ⟨w.heap.size + 1 + 1, 1, none⟩ = false := hR4.frozen 1
      have kR_4_2 : w4.cell? ⟨w.heap.size + 1 + 1, 2, none⟩ = some (.slice none 0 0) := hR4.cell 2
      have fR_4_2 : w4.frozen? ⟨w.heap.size + 1 + 1, 2, none⟩ = false := hR4.frozen 2
      have kR_4_3 : w4.cell? ⟨w.heap.size + 1 + 1, 3, none⟩ = some (.int .i64 0) := hR4.cell 3
      have fR_4_3 : w4.frozen? ⟨w.heap.size + 1 + 1, 3, none⟩ = false := hR4.frozen 3
      have kR_4_4 : w4.cell? ⟨w.heap.size + 1 + 1, 4, none⟩ = some (.int .i64 0) := hR4.cell 4
      have fR_4_4 : w4.frozen? ⟨w.heap.size + 1 + 1, 4, none⟩ = false := hR4.frozen 4
      have zR_4 : w.heap.size + 1 + 1 < w4.heap.size := hR4.lt
      have kX_4_0 : w4.cell? ⟨w2.heap.size, 0, none⟩ = some (.slice Ad0 (List.length X.1) cd0) := hX4.cell 0
      have fX_4_0 : w4.frozen? ⟨w2.heap.size, 0, none⟩ = false := hX4.frozen 0
      have kX_4_1 : w4.cell? ⟨w2.heap.size, 1, none⟩ = some (.slice Ad1 (List.length X.2.1) cd1) := hX4.cell 1
      have fX_4_1 : w4.frozen? ⟨w2.heap.size, 1, none⟩ = false := hX4.frozen 1
      have kX_4_2 : w4.cell? ⟨w2.heap.size, 2, none⟩ = some (.slice Ad2 (List.length X.2.2.1) cd2) := hX4.cell 2
      have fX_4_2 : w4.frozen? ⟨w2.heap.size, 2, none⟩ = false := hX4.frozen 2
      have kX_4_3 : w4.cell? ⟨w2.heap.size, 3, none⟩ = some (.int .i64 X.2.2.2.1) := hX4.cell 3
      have fX_4_3 : w4.frozen? ⟨w2.heap.size, 3, none⟩ = false := hX4.frozen 3
      have kX_4_4 : w4.cell? ⟨w2.heap.size, 4, none⟩ = some (.int .i64 X.2.2.2.2) := hX4.cell 4
      have fX_4_4 : w4.frozen? ⟨w2.heap.size, 4, none⟩ = false := hX4.frozen 4
      have zX_4 : w2.heap.size < w4.heap.size := hX4.lt
      by_cases hz : f_SecretOf l by_ = 0
      · have q0 : (f_SecretOf l by_ == 0) = true := by simp [hz]
        have HFF : Hid (F1 = false) := by show _ = _; rw [HF1.out, hz]; rfl
        clear hz
        go_wp2
        refine bodyPost_ret (v := .tuple #[.agg #[.slice none 0 0, .slice none 0 0, .slice none 0 0, .int .i64 0, .int .i64 0], .bool false]) (by simp [results, Tryz.results36, go_sem, kR_4_0, fR_4_0, kR_4_1, fR_4_1, kR_4_2, fR_4_2, kR_4_3, fR_4_3, kR_4_4, fR_4_4, kX_4_0, fX_4_0, kX_4_1, fX_4_1, kX_4_2, fX_4_2, kX_4_3, fX_4_3, kX_4_4, fX_4_4, zR_4, zX_4]) rfl ?_
        rw [HNO.out HFF.out, HFF.out]
        exact ⟨_, _, rfl, ow_zeroData _, fr_zero _ _, (by (repeat' (first | (with_reducible exact Below.refl _ _) | (with_reducible assumption) | (with_reducible refine bel_set ?_ (by (try dsimp only); omega) _) | (with_reducible refine bel_alloc ?_ _) | (with_reducible refine bel_drewN ?_ _) | (with_reducible refine bel_drew ?_) | (with_reducible refine bel_trans ?_ (by assumption)))); done)⟩
      have q0 : (f_SecretOf l by_ == 0) = false := by simp [hz]
      have HZ : Hid (decide (f_SecretOf l by_ = 0) = false) := by show _ = _; simp [hz]
      clear hz
      go_wp2_with fail
      refine (C_spec_ValidDataG _ _ X (Ty.rd_below hb4 (Ty.ow_rd (Ty.ow_keep (by intro b hb'; have hb'' := (hfrx).2 b hb'; (try simp only [World.size_alloc, World.size_setCell, size_drewN, World.size_drew] at hb''); repeat (first | (with_reducible rfl) | (rw [Below.heap_setCell _ _ _ _ (by (try dsimp only); omega)]) | (rw [Below.heap_alloc _ _ _ (by (try simp only [World.size_alloc, World.size_setCell]); omega)]))) howx)))).mono ?_
      rintro e w5 ⟨rfl, hb5⟩
      have hz5 := hb5.size
      have hx5 : Below WX.heap.size WX w5 := bel_trans hx4 hb5
      have hw5 : Below w.heap.size w w5 := bel_trans hvb hx5
      clear kR_4_0 fR_4_0 kR_4_1 fR_4_1 kR_4_2 fR_4_2 kR_4_3 fR_4_3 kR_4_4 fR_4_4 kX_4_0 fX_4_0 kX_4_1 fX_4_1 kX_4_2 fX_4_2 kX_4_3 fX_4_3 kX_4_4 fX_4_4
      obtain ⟨hK5, hN5, hR5⟩ := HB.out _ (hx5)
      have hX5 : Blk w5 (w2.heap.size) 34 #[.slice Ad0 (List.length X.1) cd0, .slice Ad1 (List.length X.2.1) cd1, .slice Ad2 (List.length X.2.2.1) cd2, .int .i64 X.2.2.2.1, .int .i64 X.2.2.2.2] := hX4.below hb5 (hX4.lt)
      have kR_5_0 : w5.cell? ⟨w.heap.size + 1 + 1, 0, none⟩ = some (.slice none 0 0) := hR5.cell 0
      have fR_5_0 : w5.frozen? ⟨w.heap.size + 1 + 1, 0, none⟩ = false := hR5.frozen 0
      have kR_5_1 : w5.cell? ⟨w.heap.size + 1 + 1, 1, none⟩ = some (.slice none 0 0) := hR5.cell 1
      have fR_5_1 : w5.frozen? ⟨w.heap.size + 1 + 1, 1, none⟩ = false := hR5.frozen 1
      have kR_5_2 : w5.cell? ⟨w.heap.size + 1 + 1, 2, none⟩ = some (.slice none 0 0) := hR5.cell 2
      have fR_5_2 : w5.frozen? ⟨w.heap.size + 1 + 1, 2, none⟩ = false := hR5.frozen 2
      have kR_5_3 : w5.cell? ⟨w.heap.size + 1 + 1, 3, none⟩ = some (.int .i64 0) := hR5.cell 3
      have fR_5_3 : w5.frozen? ⟨w.heap.size + 1 + 1, 3, none⟩ = false := hR5.frozen 3
      have kR_5_4 : w5.cell? ⟨w.heap.size + 1 + 1, 4, none⟩ = some (.int .i64 0) := hR5.cell 4
      have fR_5_4 : w5.frozen? ⟨w.heap.size + 1 + 1, 4, none⟩ = false := hR5.frozen 4
      have zR_5 : w.heap.size + 1 + 1 < w5.heap.size := hR5.lt
      have kX_5_0 : w5.cell? ⟨w2.heap.size, 0, none⟩ = some (.slice Ad0 (List.length X.1) cd0) := hX5.cell 0
      have fX_5_0 : w5.frozen? ⟨w2.heap.size, 0, none⟩ = false := hX5.frozen 0
      have kX_5_1 : w5.cell? ⟨w2.heap.size, 1, none⟩ = some (.slice Ad1 (List.length X.2.1) cd1) := hX5.cell 1
      have fX_5_1 : w5.frozen? ⟨w2.heap.size, 1, none⟩ = false := hX5.frozen 1
      have kX_5_2 : w5.cell? ⟨w2.heap.size, 2, none⟩ = some (.slice Ad2 (List.length X.2.2.1) cd2) := hX5.cell 2
      have fX_5_2 : w5.frozen? ⟨w2.heap.size, 2, none⟩ = false := hX5.frozen 2
      have kX_5_3 : w5.cell? ⟨w2.heap.size, 3, none⟩ = some (.int .i64 X.2.2.2.1) := hX5.cell 3
      have fX_5_3 : w5.frozen? ⟨w2.heap.size, 3, none⟩ = false := hX5.frozen 3
      have kX_5_4 : w5.cell? ⟨w2.heap.size, 4, none⟩ = some (.int .i64 X.2.2.2.2) := hX5.cell 4
      have fX_5_4 : w5.frozen? ⟨w2.heap.size, 4, none⟩ = false := hX5.frozen 4
      have zX_5 : w2.heap.size < w5.heap.size := hX5.lt
      cases q1 : f_ValidData X
      · have HFF : Hid (F1 = false) := by show _ = _; rw [HF1.out, HZ.out, q1]; rfl
        clear q1
        go_wp2
        refine bodyPost_ret (v := .tuple #[.agg #[.slice none 0 0, .slice none 0 0, .slice none 0 0, .int .i64 0, .int .i64 0], .bool false]) (by simp [results, Tryz.results36, go_sem, kR_5_0, fR_5_0, kR_5_1, fR_5_1, kR_5_2, fR_5_2, kR_5_3, fR_5_3, kR_5_4, fR_5_4, kX_5_0, fX_5_0, kX_5_1, fX_5_1, kX_5_2, fX_5_2, kX_5_3, fX_5_3, kX_5_4, fX_5_4, zR_5, zX_5]) rfl ?_
        rw [HNO.out HFF.out, HFF.out]
        exact ⟨_, _, rfl, ow_zeroData _, fr_zero _ _, (by (repeat' (first | (with_reducible exact Below.refl _ _) | (with_reducible assumption) | (with_reducible refine bel_set ?_ (by (try dsimp only); omega) _) | (with_reducible refine bel_alloc ?_ _) | (with_reducible refine bel_drewN ?_ _) | (with_reducible refine bel_drew ?_) | (with_reducible refine bel_trans ?_ (by assumption)))); done)⟩
      · have HFF : Hid (F1 = true) := by show _ = _; rw [HF1.out, HZ.out, q1]; rfl
        clear q1
        go_wp2
        refine bodyPost_ret (v := .tuple #[.agg #[.slice Ad0 (List.length X.1) cd0, .slice Ad1 (List.length X.2.1) cd1, .slice Ad2 (List.length X.2.2.1) cd2, .int .i64 X.2.2.2.1, .int .i64 X.2.2.2.2], .bool true]) (by simp [results, Tryz.results36, go_sem, kR_5_0, fR_5_0, kR_5_1, fR_5_1, kR_5_2, fR_5_2, kR_5_3, fR_5_3, kR_5_4, fR_5_4, kX_5_0, fX_5_0, kX_5_1, fX_5_1, kX_5_2, fX_5_2, kX_5_3, fX_5_3, kX_5_4, fX_5_4, zR_5, zX_5]) rfl ?_
        rw [HYES.out HFF.out, HFF.out]
        exact ⟨_, fpx, rfl, Ty.ow_keep (by intro b hb'; have hb'' := (hfrx).2 b hb'; (try simp only [World.size_alloc, World.size_setCell, size_drewN, World.size_drew] at hb''); repeat (first | (with_reducible rfl) | (rw [Below.heap_setCell _ _ _ _ (by (try dsimp only); omega)]) | (rw [Below.heap_alloc _ _ _ (by (try simp only [World.size_alloc, World.size_setCell]); omega)]) | (rw [hb5.block _ (by (try simp only [World.size_alloc, World.size_setCell, size_drewN, World.size_drew]); omega)]) | (rw [hb4.block _ (by (try simp only [World.size_alloc, World.size_setCell, size_drewN, World.size_drew]); omega)]))) howx, hfrx.mono (by (try simp only [World.size_alloc, World.size_drew, size_drewN] at *); omega) (by (try simp only [World.size_alloc, World.size_setCell, size_drewN, World.size_drew]); omega), (by (repeat' (first | (with_reducible exact Below.refl _ _) | (with_reducible assumption) | (with_reducible refine bel_set ?_ (by (try dsimp only); omega) _) | (with_reducible refine bel_alloc ?_ _) | (with_reducible refine bel_drewN ?_ _) | (with_reducible refine bel_drew ?_) | (with_reducible refine bel_trans ?_ (by assumption)))); done)⟩
    · go_simp
      refine hK.out _ _ ?_ (fun hHeld => ?_)
      · (try dsimp only)
        exact HS.out _ (by (repeat' (first | (with_reducible exact Below.refl _ _) | (with_reducible assumption) | (with_reducible refine bel_set ?_ (by (try dsimp only); omega) _) | (with_reducible refine bel_alloc ?_ _) | (with_reducible refine bel_drewN ?_ _) | (with_reducible refine bel_drew ?_) | (with_reducible refine bel_trans ?_ (by assumption)))); done)
      clear hK K
      try simp only [Act.put, List.setIfInBounds_toArray, List.set_cons_zero, List.set_cons_succ]
      refine wpAnyH_ready (rs := [8]) (by kernel_rfl) (by simp) ?_
      refine (AllReadyH.cons (opN rfl) (fun K hK => ?_) AllReadyH.nil)
      go_simp
      go_at_call 96
      refine (C_spec_SignDataB _ _ _ (swkD by_ n b till) (rd_Data_mk (x := swkD by_ n b till) (Ty.rd_below (by (repeat' (first | (with_reducible exact Below.refl _ _) | (with_reducible assumption) | (with_reducible refine bel_set ?_ (by (try dsimp only); omega) _) | (with_reducible refine bel_alloc ?_ _) | (with_reducible refine bel_drewN ?_ _) | (with_reducible refine bel_drew ?_) | (with_reducible refine bel_trans ?_ (by assumption)))); done) (Ty.rd_below hvb h2)) (Ty.rd_below (by (repeat' (first | (with_reducible exact Below.refl _ _) | (with_reducible assumption) | (with_reducible refine bel_set ?_ (by (try dsimp only); omega) _) | (with_reducible refine bel_alloc ?_ _) | (with_reducible refine bel_drewN ?_ _) | (with_reducible refine bel_drew ?_) | (with_reducible refine bel_trans ?_ (by assumption)))); done) (Ty.rd_below hvb h3)) (Ty.rd_below (by (repeat' (first | (with_reducible exact Below.refl _ _) | (with_reducible assumption) | (with_reducible refine bel_set ?_ (by (try dsimp only); omega) _) | (with_reducible refine bel_alloc ?_ _) | (with_reducible refine bel_drewN ?_ _) | (with_reducible refine bel_drew ?_) | (with_reducible refine bel_trans ?_ (by assumption)))); done) (Ty.rd_below hvb h1)) i4 (by show _ ≤ (0 : Int) ∧ (0 : Int) ≤ _; decide)) hsb hbk).mono ?_
      rw [← HX.out]
      rintro e w2 ⟨csx, fpx, rfl, howx, hfrx, hb2⟩
      obtain ⟨Ad0, cd0, Ad1, cd1, Ad2, cd2, rfl⟩ := ow_Data howx
      have hx2 : Below WX.heap.size WX w2 := (by (repeat' (first | (with_reducible exact Below.refl _ _) | (with_reducible assumption) | (with_reducible refine bel_set ?_ (by (try dsimp only); omega) _) | (with_reducible refine bel_alloc ?_ _) | (with_reducible refine bel_drewN ?_ _) | (with_reducible refine bel_drew ?_) | (with_reducible refine bel_trans ?_ (by assumption)))); done)
      refine hK.out _ _ ?_ (fun hHeld => ?_)
      · (try dsimp only)
        exact HS.out _ (by (repeat' (first | (with_reducible exact Below.refl _ _) | (with_reducible assumption) | (with_reducible refine bel_set ?_ (by (try dsimp only); omega) _) | (with_reducible refine bel_alloc ?_ _) | (with_reducible refine bel_drewN ?_ _) | (with_reducible refine bel_drew ?_) | (with_reducible refine bel_trans ?_ (by assumption)))); done)
      clear hK K
      try simp only [Act.put, List.setIfInBounds_toArray, List.set_cons_zero, List.set_cons_succ]
      have hzs1 := hb1.size
      have hzs2 := hb2.size
      try simp only [World.size_alloc, World.size_drew, size_drewN] at hzs1 hzs2
      have hG2 : Blk w2 (w1.heap.size) 34 #[.slice none 0 0, .slice none 0 0, .slice none 0 0, .int .i64 0, .int .i64 0] := by
        first
          | exact (Blk.new (w1) _ _).below hb2 (by simp only [World.size_alloc, World.size_drew, size_drewN]; omega)
          | exact (Blk.drew (Blk.new (w1) _ _)).below hb2 (by simp only [World.size_alloc, World.size_drew, size_drewN]; omega)
          | exact ((Blk.drew (Blk.new (w1) _ _)).below hb1 (by simp only [World.size_alloc, World.size_drew, size_drewN]; omega)).below hb2 (by have := hb1.size; simp only [World.size_alloc, World.size_drew, size_drewN] at this; omega)
          | exact ((Blk.new (w1) _ _).below hb1 (by simp only [World.size_alloc, World.size_drew, size_drewN]; omega)).below hb2 (by have := hb1.size; simp only [World.size_alloc, World.size_drew, size_drewN] at this; omega)
      have kG_2_0 : w2.cell? ⟨w1.heap.size, 0, none⟩ = some (.slice none 0 0) := hG2.cell 0
      have fG_2_0 : w2.frozen? ⟨w1.heap.size, 0, none⟩ = false := hG2.frozen 0
      have kG_2_1 : w2.cell? ⟨w1.heap.size, 1, none⟩ = some (.slice none 0 0) := hG2.cell 1
      have fG_2_1 : w2.frozen? ⟨w1.heap.size, 1, none⟩ = false := hG2.frozen 1
      have kG_2_2 : w2.cell? ⟨w1.heap.size, 2, none⟩ = some (.slice none 0 0) := hG2.cell 2
      have fG_2_2 : w2.frozen? ⟨w1.heap.size, 2, none⟩ = false := hG2.frozen 2
      have kG_2_3 : w2.cell? ⟨w1.heap.size, 3, none⟩ = some (.int .i64 0) := hG2.cell 3
      have fG_2_3 : w2.frozen? ⟨w1.heap.size, 3, none⟩ = false := hG2.frozen 3
      have kG_2_4 : w2.cell? ⟨w1.heap.size, 4, none⟩ = some (.int .i64 0) := hG2.cell 4
      have fG_2_4 : w2.frozen? ⟨w1.heap.size, 4, none⟩ = false := hG2.frozen 4
      have zG_2 : w1.heap.size < w2.heap.size := hG2.lt
      refine wpAnyH_ready (rs := [10]) (by kernel_rfl) (by simp) ?_
      refine (AllReadyH.cons (opN rfl) (fun K hK => ?_) AllReadyH.nil)
      go_simp
      refine hK.out _ _ ?_ (fun hHeld => ?_)
      · (try dsimp only)
        exact HS.out _ (by (repeat' (first | (with_reducible exact Below.refl _ _) | (with_reducible assumption) | (with_reducible refine bel_set ?_ (by (try dsimp only); omega) _) | (with_reducible refine bel_alloc ?_ _) | (with_reducible refine bel_drewN ?_ _) | (with_reducible refine bel_drew ?_) | (with_reducible refine bel_trans ?_ (by assumption)))); done)
      clear hK K
      try simp only [Act.put, List.setIfInBounds_toArray, List.set_cons_zero, List.set_cons_succ]
      clear kG_2_0 fG_2_0 kG_2_1 fG_2_1 kG_2_2 fG_2_2 kG_2_3 fG_2_3 kG_2_4 fG_2_4
      refine wpAnyH_done (by kernel_rfl) ?_ _
      refine NoPanic.normal ?_
      go_wp2_with fail
      refine (C_spec_SecretOf _ _ l _ by_ (Ty.rd_below (by (repeat' (first | (with_reducible exact Below.refl _ _) | (with_reducible assumption) | (with_reducible refine bel_set ?_ (by (try dsimp only); omega) _) | (with_reducible refine bel_alloc ?_ _) | (with_reducible refine bel_drewN ?_ _) | (with_reducible refine bel_drew ?_) | (with_reducible refine bel_trans ?_ (by assumption)))); done) (Ty.rd_below hvb h0)) (Ty.rd_below (by (repeat' (first | (with_reducible exact Below.refl _ _) | (with_reducible assumption) | (with_reducible refine bel_set ?_ (by (try dsimp only); omega) _) | (with_reducible refine bel_alloc ?_ _) | (with_reducible refine bel_drewN ?_ _) | (with_reducible refine bel_drew ?_) | (with_reducible refine bel_trans ?_ (by assumption)))); done) (Ty.rd_below hvb h1)) s0 s1).mono ?_
      rintro e w4 ⟨rfl, hb4⟩
      have hz4 := hb4.size
      try simp only [World.size_alloc, World.size_setCell, World.size_drew, size_drewN] at hz4
      have hx4 : Below WX.heap.size WX w4 := (by (repeat' (first | (with_reducible exact Below.refl _ _) | (with_reducible assumption) | (with_reducible refine bel_set ?_ (by (try dsimp only); omega) _) | (with_reducible refine bel_alloc ?_ _) | (with_reducible refine bel_drewN ?_ _) | (with_reducible refine bel_drew ?_) | (with_reducible refine bel_trans ?_ (by assumption)))); done)
      have hw4 : Below w.heap.size w w4 := bel_trans hvb hx4
      have hX4 : Blk w4 (w1.heap.size) 34 #[.slice Ad0 (List.length X.1) cd0, .slice Ad1 (List.length X.2.1) cd1, .slice Ad2 (List.length X.2.2.1) cd2, .int .i64 X.2.2.2.1, .int .i64 X.2.2.2.2] := by
        refine Blk.below (w := _) (B := _) ?_ hb4 (by simp only [World.size_alloc, World.size_setCell, World.size_drew, size_drewN]; omega)
        exact ((((hG2.set_ 0 _).set_ 1 _).set_ 2 _).set_ 3 _).set_ 4 _
      obtain ⟨hK4, hN4, hR4⟩ := HB.out _ (hx4)
      have kR_4_0 : w4.cell? ⟨w.heap.size + 1 + 1, 0, none⟩ = some (.slice none 0 0) := hR4.cell 0
      have fR_4_0 : w4.frozen? ⟨w.heap.size + 1 + 1, 0, none⟩ = false := hR4.frozen 0
      have kR_4_1 : w4.cell? ⟨w.heap.size + 1 + 1, 1, none⟩ = some (.slice none 0 0) := hR4.cell 1
      have fR_4_1 : w4.frozen? ⟨w.heap.size + 1 + 1, 1, none⟩ = false := hR4.frozen 1
      have kR_4_2 : w4.cell? ⟨w.heap.size + 1 + 1, 2, none⟩ = some (.slice none 0 0) := hR4.cell 2
      have fR_4_2 : w4.frozen? ⟨w.heap.size + 1 + 1, 2, none⟩ = false := hR4.frozen 2
      have kR_4_3 : w4.cell? ⟨w.heap.size + 1 + 1, 3, none⟩ = some (.int .i64 0) := hR4.cell 3
      have fR_4_3 : w4.frozen? ⟨w.heap.size + 1 + 1, 3, none⟩ = false := hR4.frozen 3
      have kR_4_4 : w4.cell? ⟨w.heap.size + 1 + 1, 4, none⟩ = some (.int .i64 0) := hR4.cell 4
      have fR_4_4 : w4.frozen? ⟨w.heap.size + 1 + 1, 4, none⟩ = false := hR4.frozen 4
      have zR_4 : w.heap.size + 1 + 1 < w4.heap.size := hR4.lt
      have kX_4_0 : w4.cell? ⟨w1.heap.size, 0, none⟩ = some (.slice Ad0 (List.length X.1) cd0) := hX4.cell 0
      have fX_4_0 : w4.frozen? ⟨w1.heap.size, 0, none⟩ = false := hX4.frozen 0
      have kX_4_1 : w4.cell? ⟨w1.heap.size, 1, none⟩ = some (.slice Ad1 (List.length X.2.1) cd1) := hX4.cell 1
      have fX_4_1 : w4.frozen? ⟨w1.heap.size, 1, none⟩ = false := hX4.frozen 1
      have kX_4_2 : w4.cell? ⟨w1.heap.size, 2, none⟩ = some (.slice Ad2 (List.length X.2.2.1) cd2) := hX4.cell 2
      have fX_4_2 : w4.frozen? ⟨w1.heap.size, 2, none⟩ = false := hX4.frozen 2
      have kX_4_3 : w4.cell? ⟨w1.heap.size, 3, none⟩ = some (.int .i64 X.2.2.2.1) := hX4.cell 3
      have fX_4_3 : w4.frozen? ⟨w1.heap.size, 3, none⟩ = false := hX4.frozen 3
      have kX_4_4 : w4.cell? ⟨w1.heap.size, 4, none⟩ = some (.int .i64 X.2.2.2.2) := hX4.cell 4
      have fX_4_4 : w4.frozen? ⟨w1.heap.size, 4, none⟩ = false := hX4.frozen 4
      have zX_4 : w1.heap.size < w4.heap.size := hX4.lt
      by_cases hz : f_SecretOf l by_ = 0
      · have q0 : (f_SecretOf l by_ == 0) = true := by simp [hz]
        have HFF : Hid (F1 = false) := by show _ = _; rw [HF1.out, hz]; rfl
        clear hz
        go_wp2
        refine bodyPost_ret (v := .tuple #[.agg #[.slice none 0 0, .slice none 0 0, .slice none 0 0, .int .i64 0, .int .i64 0], .bool false]) (by simp [results, Tryz.results36, go_sem, kR_4_0, fR_4_0, kR_4_1, fR_4_1, kR_4_2, fR_4_2, kR_4_3, fR_4_3, kR_4_4, fR_4_4, kX_4_0, fX_4_0, kX_4_1, fX_4_1, kX_4_2, fX_4_2, kX_4_3, fX_4_3, kX_4_4, fX_4_4, zR_4, zX_4]) rfl ?_
        rw [HNO.out HFF.out, HFF.out]
        exact ⟨_, _, rfl, ow_zeroData _, fr_zero _ _, (by (repeat' (first | (with_reducible exact Below.refl _ _) | (with_reducible assumption) | (with_reducible refine bel_set ?_ (by (try dsimp only); omega) _) | (with_reducible refine bel_alloc ?_ _) | (with_reducible refine bel_drewN ?_ _) | (with_reducible refine bel_drew ?_) | (with_reducible refine bel_trans ?_ (by assumption)))); done)⟩
      have q0 : (f_SecretOf l by_ == 0) = false := by simp [hz]
      have HZ : Hid (decide (f_SecretOf l by_ = 0) = false) := by show _ = _; simp [hz]
      clear hz
      go_wp2_with fail
      refine (C_spec_ValidDataG _ _ X (Ty.rd_below hb4 (Ty.ow_rd (Ty.ow_keep (by intro b hb'; have hb'' := (hfrx).2 b hb'; (try simp only [World.size_alloc, World.size_setCell, size_drewN, World.size_drew] at hb''); repeat (first | (with_reducible rfl) | (rw [Below.heap_setCell _ _ _ _ (by (try dsimp only); omega)]) | (rw [Below.heap_alloc _ _ _ (by (try simp only [World.size_alloc, World.size_setCell]); omega)]))) howx)))).mono ?_
      rintro e w5 ⟨rfl, hb5⟩
      have hz5 := hb5.size
      have hx5 : Below WX.heap.size WX w5 := bel_trans hx4 hb5
      have hw5 : Below w.heap.size w w5 := bel_trans hvb hx5
      clear kR_4_0 fR_4_0 kR_4_1 fR_4_1 kR_4_2 fR_4_2 kR_4_3 fR_4_3 kR_4_4 fR_4_4 kX_4_0 fX_4_0 kX_4_1 fX_4_1 kX_4_2 fX_4_2 kX_4_3 fX_4_3 kX_4_4 fX_4_4
      obtain ⟨hK5, hN5, hR5⟩ := HB.out _ (hx5)
      have hX5 : Blk w5 (w1.heap.size) 34 #[.slice Ad0 (List.length X.1) cd0, .slice Ad1 (List.length X.2.1) cd1, .slice Ad2 (List.length X.2.2.1) cd2, .int .i64 X.2.2.2.1, .int .i64 X.2.2.2.2] := hX4.below hb5 (hX4.lt)
      have kR_5_0 : w5.cell? ⟨w.heap.size + 1 + 1, 0, none⟩ = some (.slice none 0 0) := hR5.cell 0
      have fR_5_0 : w5.frozen? ⟨w.heap.size + 1 + 1, 0, none⟩ = false := hR5.frozen 0
      have kR_5_1 : w5.cell? ⟨w.heap.size + 1 + 1, 1, none⟩ = some (.slice none 0 0) := hR5.cell 1
      have fR_5_1 : w5.frozen? ⟨w.heap.size + 1 + 1, 1, none⟩ = false := hR5.frozen 1
      have kR_5_2 : w5.cell? ⟨w.heap.size + 1 + 1, 2, none⟩ = some (.slice none 0 0) := hR5.cell 2
      have fR_5_2 : w5.frozen? ⟨w.heap.size + 1 + 1, 2, none⟩ = false := hR5.frozen 2
      have kR_5_3 : w5.cell? ⟨w.heap.size + 1 + 1, 3, none⟩ = some (.int .i64 0) := hR5.cell 3
      have fR_5_3 : w5.frozen? ⟨w.heap.size + 1 + 1, 3, none⟩ = false := hR5.frozen 3
      have kR_5_4 : w5.cell? ⟨w.heap.size + 1 + 1, 4, none⟩ = some (.int .i64 0) := hR5.cell 4
      have fR_5_4 : w5.frozen? ⟨w.heap.size + 1 + 1, 4, none⟩ = false := hR5.frozen 4
      have zR_5 : w.heap.size + 1 + 1 < w5.heap.size := hR5.lt
      have kX_5_0 : w5.cell? ⟨w1.heap.size, 0, none⟩ = some (.slice Ad0 (List.length X.1) cd0) := hX5.cell 0
      have fX_5_0 : w5.frozen? ⟨w1.heap.size, 0, none⟩ = false := hX5.frozen 0
      have kX_5_1 : w5.cell? ⟨w1.heap.size, 1, none⟩ = some (.slice Ad1 (List.length X.2.1) cd1) := hX5.cell 1
      have fX_5_1 : w5.frozen? ⟨w1.heap.size, 1, none⟩ = false := hX5.frozen 1
      have kX_5_2 : w5.cell? ⟨w1.heap.size, 2, none⟩ = some (.slice Ad2 (List.length X.2.2.1) cd2) := hX5.cell 2
      have fX_5_2 : w5.frozen? ⟨w1.heap.size, 2, none⟩ = false := hX5.frozen 2
      have kX_5_3 : w5.cell? ⟨w1.heap.size, 3, none⟩ = some (.int .i64 X.2.2.2.1) := hX5.cell 3
      have fX_5_3 : w5.frozen? ⟨w1.heap.size, 3, none⟩ = false := hX5.frozen 3
      have kX_5_4 : w5.cell? ⟨w1.heap.size, 4, none⟩ = some (.int .i64 X.2.2.2.2) := hX5.cell 4
      have fX_5_4 : w5.frozen? ⟨w1.heap.size, 4, none⟩ = false := hX5.frozen 4
      have zX_5 : w1.heap.size < w5.heap.size := hX5.lt
      cases q1 : f_ValidData X
      · have HFF : Hid (F1 = false) := by show _ = _; rw [HF1.out, HZ.out, q1]; rfl
        clear q1
        go_wp2
        refine bodyPost_ret (v := .tuple #[.agg #[.slice none 0 0, .slice none 0 0, .slice none 0 0, .int .i64 0, .int .i64 0], .bool false]) (by simp [results, Tryz.results36, go_sem, kR_5_0, fR_5_0, kR_5_1, fR_5_1, kR_5_2, fR_5_2, kR_5_3, fR_5_3, kR_5_4, fR_5_4, kX_5_0, fX_5_0, kX_5_1, fX_5_1, kX_5_2, fX_5_2, kX_5_3, fX_5_3, kX_5_4, fX_5_4, zR_5, zX_5]) rfl ?_
        rw [HNO.out HFF.out, HFF.out]
        exact ⟨_, _, rfl, ow_zeroData _, fr_zero _ _, (by (repeat' (first | (with_reducible exact Below.refl _ _) | (with_reducible assumption) | (with_reducible refine bel_set ?_ (by (try dsimp only); omega) _) | (with_reducible refine bel_alloc ?_ _) | (with_reducible refine bel_drewN ?_ _) | (with_reducible refine bel_drew ?_) | (with_reducible refine bel_trans ?_ (by assumption)))); done)⟩
      · have HFF : Hid (F1 = true) := by show _ = _; rw [HF1.out, HZ.out, q1]; rfl
        clear q1
        go_wp2
        refine bodyPost_ret (v := .tuple #[.agg #[.slice Ad0 (List.length X.1) cd0, .slice Ad1 (List.length X.2.1) cd1, .slice Ad2 (List.length X.2.2.1) cd2, .int .i64 X.2.2.2.1, .int .i64 X.2.2.2.2], .bool true]) (by simp [results, Tryz.results36, go_sem, kR_5_0, fR_5_0, kR_5_1, fR_5_1, kR_5_2, fR_5_2, kR_5_3, fR_5_3, kR_5_4, fR_5_4, kX_5_0, fX_5_0, kX_5_1, fX_5_1, kX_5_2, fX_5_2, kX_5_3, fX_5_3, kX_5_4, fX_5_4, zR_5, zX_5]) rfl ?_
        rw [HYES.out HFF.out, HFF.out]
        exact ⟨_, fpx, rfl, Ty.ow_keep (by intro b hb'; have hb'' := (hfrx).2 b hb'; (try simp only [World.size_alloc, World.size_setCell, size_drewN, World.size_drew] at hb''); repeat (first | (with_reducible rfl) | (rw [Below.heap_setCell _ _ _ _ (by (try dsimp only); omega)]) | (rw [Below.heap_alloc _ _ _ (by (try simp only [World.size_alloc, World.size_setCell]); omega)]) | (rw [hb5.block _ (by (try simp only [World.size_alloc, World.size_setCell, size_drewN, World.size_drew]); omega)]) | (rw [hb4.block _ (by (try simp only [World.size_alloc, World.size_setCell, size_drewN, World.size_drew]); omega)]))) howx, hfrx.mono (by (try simp only [World.size_alloc, World.size_drew, size_drewN] at *); omega) (by (try simp only [World.size_alloc, World.size_setCell, size_drewN, World.size_drew]); omega), (by (repeat' (first | (with_reducible exact Below.refl _ _) | (with_reducible assumption) | (with_reducible refine bel_set ?_ (by (try dsimp only); omega) _) | (with_reducible refine bel_alloc ?_ _) | (with_reducible refine bel_drewN ?_ _) | (with_reducible refine bel_drew ?_) | (with_reducible refine bel_trans ?_ (by assumption)))); done)⟩
  · go_simp
    refine hK.out _ _ ?_ (fun hHeld => ?_)
    · (try dsimp only)
      exact HS.out _ (by (repeat' (first | (with_reducible exact Below.refl _ _) | (with_reducible assumption) | (with_reducible refine bel_set ?_ (by (try dsimp only); omega) _) | (with_reducible refine bel_alloc ?_ _) | (with_reducible refine bel_drewN ?_ _) | (with_reducible refine bel_drew ?_) | (with_reducible refine bel_trans ?_ (by assumption)))); done)
    clear hK K
    try simp only [Act.put, List.setIfInBounds_toArray, List.set_cons_zero, List.set_cons_succ]
    refine wpAnyH_ready (rs := [2]) (by kernel_rfl) (by simp) ?_
    refine (AllReadyH.cons (opN rfl) (fun K hK => ?_) AllReadyH.nil)
    go_simp
    go_at_call 48
    refine (C_spec_SecretOf _ _ l _ by_ (Ty.rd_below (by (repeat' (first | (with_reducible exact Below.refl _ _) | (with_reducible assumption) | (with_reducible refine bel_set ?_ (by (try dsimp only); omega) _) | (with_reducible refine bel_alloc ?_ _) | (with_reducible refine bel_drewN ?_ _) | (with_reducible refine bel_drew ?_) | (with_reducible refine bel_trans ?_ (by assumption)))); done) (Ty.rd_below hvb h0)) (Ty.rd_below (by (repeat' (first | (with_reducible exact Below.refl _ _) | (with_reducible assumption) | (with_reducible refine bel_set ?_ (by (try dsimp only); omega) _) | (with_reducible refine bel_alloc ?_ _) | (with_reducible refine bel_drewN ?_ _) | (with_reducible refine bel_drew ?_) | (with_reducible refine bel_trans ?_ (by assumption)))); done) (Ty.rd_below hvb h1)) s0 s1).mono ?_
    rintro e w1 ⟨rfl, hb1⟩
    have hx1 : Below WX.heap.size WX w1 := (by (repeat' (first | (with_reducible exact Below.refl _ _) | (with_reducible assumption) | (with_reducible refine bel_set ?_ (by (try dsimp only); omega) _) | (with_reducible refine bel_alloc ?_ _) | (with_reducible refine bel_drewN ?_ _) | (with_reducible refine bel_drew ?_) | (with_reducible refine bel_trans ?_ (by assumption)))); done)
    refine hK.out _ _ ?_ (fun hHeld => ?_)
    · (try dsimp only)
      exact HS.out _ (by (repeat' (first | (with_reducible exact Below.refl _ _) | (with_reducible assumption) | (with_reducible refine bel_set ?_ (by (try dsimp only); omega) _) | (with_reducible refine bel_alloc ?_ _) | (with_reducible refine bel_drewN ?_ _) | (with_reducible refine bel_drew ?_) | (with_reducible refine bel_trans ?_ (by assumption)))); done)
    clear hK K
    try simp only [Act.put, List.setIfInBounds_toArray, List.set_cons_zero, List.set_cons_succ]
    refine wpAnyH_ready (rs := [8]) (by kernel_rfl) (by simp) ?_
    refine (AllReadyH.cons (opN rfl) (fun K hK => ?_) AllReadyH.nil)
    go_simp
    go_at_call 96
    refine (C_spec_SignDataB _ _ _ (swkD by_ n b till) (rd_Data_mk (x := swkD by_ n b till) (Ty.rd_below (by (repeat' (first | (with_reducible exact Below.refl _ _) | (with_reducible assumption) | (with_reducible refine bel_set ?_ (by (try dsimp only); omega) _) | (with_reducible refine bel_alloc ?_ _) | (with_reducible refine bel_drewN ?_ _) | (with_reducible refine bel_drew ?_) | (with_reducible refine bel_trans ?_ (by assumption)))); done) (Ty.rd_below hvb h2)) (Ty.rd_below (by (repeat' (first | (with_reducible exact Below.refl _ _) | (with_reducible assumption) | (with_reducible refine bel_set ?_ (by (try dsimp only); omega) _) | (with_reducible refine bel_alloc ?_ _) | (with_reducible refine bel_drewN ?_ _) | (with_reducible refine bel_drew ?_) | (with_reducible refine bel_trans ?_ (by assumption)))); done) (Ty.rd_below hvb h3)) (Ty.rd_below (by (repeat' (first | (with_reducible exact Below.refl _ _) | (with_reducible assumption) | (with_reducible refine bel_set ?_ (by (try dsimp only); omega) _) | (with_reducible refine bel_alloc ?_ _) | (with_reducible refine bel_drewN ?_ _) | (with_reducible refine bel_drew ?_) | (with_reducible refine bel_trans ?_ (by assumption)))); done) (Ty.rd_below hvb h1)) i4 (by show _ ≤ (0 : Int) ∧ (0 : Int) ≤ _; decide)) hsb hbk).mono ?_
    rw [← HX.out]
    rintro e w2 ⟨csx, fpx, rfl, howx, hfrx, hb2⟩
    obtain ⟨Ad0, cd0, Ad1, cd1, Ad2, cd2, rfl⟩ := ow_Data howx
    have hx2 : Below WX.heap.size WX w2 := (by (repeat' (first | (with_reducible exact Below.refl _ _) | (with_reducible assumption) | (with_reducible refine bel_set ?_ (by (try dsimp only); omega) _) | (with_reducible refine bel_alloc ?_ _) | (with_reducible refine bel_drewN ?_ _) | (with_reducible refine bel_drew ?_) | (with_reducible refine bel_trans ?_ (by assumption)))); done)
    refine hK.out _ _ ?_ (fun hHeld => ?_)
    · (try dsimp only)
      exact HS.out _ (by (repeat' (first | (with_reducible exact Below.refl _ _) | (with_reducible assumption) | (with_reducible refine bel_set ?_ (by (try dsimp only); omega) _) | (with_reducible refine bel_alloc ?_ _) | (with_reducible refine bel_drewN ?_ _) | (with_reducible refine bel_drew ?_) | (with_reducible refine bel_trans ?_ (by assumption)))); done)
    clear hK K
    try simp only [Act.put, List.setIfInBounds_toArray, List.set_cons_zero, List.set_cons_succ]
    have hzs1 := hb1.size
    have hzs2 := hb2.size
    try simp only [World.size_alloc, World.size_drew, size_drewN] at hzs1 hzs2
    have hG2 : Blk w2 (WX.heap.size) 34 #[.slice none 0 0, .slice none 0 0, .slice none 0 0, .int .i64 0, .int .i64 0] := by
      first
        | exact (Blk.new (WX) _ _).below hb2 (by simp only [World.size_alloc, World.size_drew, size_drewN]; omega)
        | exact (Blk.drew (Blk.new (WX) _ _)).below hb2 (by simp only [World.size_alloc, World.size_drew, size_drewN]; omega)
        | exact ((Blk.drew (Blk.new (WX) _ _)).below hb1 (by simp only [World.size_alloc, World.size_drew, size_drewN]; omega)).below hb2 (by have := hb1.size; simp only [World.size_alloc, World.size_drew, size_drewN] at this; omega)
        | exact ((Blk.new (WX) _ _).below hb1 (by simp only [World.size_alloc, World.size_drew, size_drewN]; omega)).below hb2 (by have := hb1.size; simp only [World.size_alloc, World.size_drew, size_drewN] at this; omega)
    have kG_2_0 : w2.cell? ⟨WX.heap.size, 0, none⟩ = some (.slice none 0 0) := hG2.cell 0
    have fG_2_0 : w2.frozen? ⟨WX.heap.size, 0, none⟩ = false := hG2.frozen 0
    have kG_2_1 : w2.cell? ⟨WX.heap.size, 1, none⟩ = some (.slice none 0 0) := hG2.cell 1
    have fG_2_1 : w2.frozen? ⟨WX.heap.size, 1, none⟩ = false := hG2.frozen 1
    have kG_2_2 : w2.cell? ⟨WX.heap.size, 2, none⟩ = some (.slice none 0 0) := hG2.cell 2
    have fG_2_2 : w2.frozen? ⟨WX.heap.size, 2, none⟩ = false := hG2.frozen 2
    have kG_2_3 : w2.cell? ⟨WX.heap.size, 3, none⟩ = some (.int .i64 0) := hG2.cell 3
    have fG_2_3 : w2.frozen? ⟨WX.heap.size, 3, none⟩ = false := hG2.frozen 3
    have kG_2_4 : w2.cell? ⟨WX.heap.size, 4, none⟩ = some (.int .i64 0) := hG2.cell 4
    have fG_2_4 : w2.frozen? ⟨WX.heap.size, 4, none⟩ = false := hG2.frozen 4
    have zG_2 : WX.heap.size < w2.heap.size := hG2.lt
    refine wpAnyH_ready (rs := [10]) (by kernel_rfl) (by simp) ?_
    refine (AllReadyH.cons (opN rfl) (fun K hK => ?_) AllReadyH.nil)
    go_simp
    refine hK.out _ _ ?_ (fun hHeld => ?_)
    · (try dsimp only)
      exact HS.out _ (by (repeat' (first | (with_reducible exact Below.refl _ _) | (with_reducible assumption) | (with_reducible refine bel_set ?_ (by (try dsimp only); omega) _) | (with_reducible refine bel_alloc ?_ _) | (with_reducible refine bel_drewN ?_ _) | (with_reducible refine bel_drew ?_) | (with_reducible refine bel_trans ?_ (by assumption)))); done)
    clear hK K
    try simp only [Act.put, List.setIfInBounds_toArray, List.set_cons_zero, List.set_cons_succ]
    clear kG_2_0 fG_2_0 kG_2_1 fG_2_1 kG_2_2 fG_2_2 kG_2_3 fG_2_3 kG_2_4 fG_2_4
    refine wpAnyH_done (by kernel_rfl) ?_ _
    refine NoPanic.normal ?_
    go_wp2_with fail
    refine (C_spec_SecretOf _ _ l _ by_ (Ty.rd_below (by (repeat' (first | (with_reducible exact Below.refl _ _) | (with_reducible assumption) | (with_reducible refine bel_set ?_ (by (try dsimp only); omega) _) | (with_reducible refine bel_alloc ?_ _) | (with_reducible refine bel_drewN ?_ _) | (with_reducible refine bel_drew ?_) | (with_reducible refine bel_trans ?_ (by assumption)))); done) (Ty.rd_below hvb h0)) (Ty.rd_below (by (repeat' (first | (with_reducible exact Below.refl _ _) | (with_reducible assumption) | (with_reducible refine bel_set ?_ (by (try dsimp only); omega) _) | (with_reducible refine bel_alloc ?_ _) | (with_reducible refine bel_drewN ?_ _) | (with_reducible refine bel_drew ?_) | (with_reducible refine bel_trans ?_ (by assumption)))); done) (Ty.rd_below hvb h1)) s0 s1).mono ?_
    rintro e w4 ⟨rfl, hb4⟩
    have hz4 := hb4.size
    try simp only [World.size_alloc, World.size_setCell, World.size_drew, size_drewN] at hz4
    have hx4 : Below WX.heap.size WX w4 := (by (repeat' (first | (with_reducible exact Below.refl _ _) | (with_reducible assumption) | (with_reducible refine bel_set ?_ (by (try dsimp only); omega) _) | (with_reducible refine bel_alloc ?_ _) | (with_reducible refine bel_drewN ?_ _) | (with_reducible refine bel_drew ?_) | (with_reducible refine bel_trans ?_ (by assumption)))); done)
    have hw4 : Below w.heap.size w w4 := bel_trans hvb hx4
    have hX4 : Blk w4 (WX.heap.size) 34 #[.slice Ad0 (List.length X.1) cd0, .slice Ad1 (List.length X.2.1) cd1, .slice Ad2 (List.length X.2.2.1) cd2, .int .i64 X.2.2.2.1, .int .i64 X.2.2.2.2] := by
      refine Blk.below (w := _) (B := _) ?_ hb4 (by simp only [World.size_alloc, World.size_setCell, World.size_drew, size_drewN]; omega)
      exact ((((hG2.set_ 0 _).set_ 1 _).set_ 2 _).set_ 3 _).set_ 4 _
    obtain ⟨hK4, hN4, hR4⟩ := HB.out _ (hx4)
    have kR_4_0 : w4.cell? ⟨w.heap.size + 1 + 1, 0, none⟩ = some (.slice none 0 0) := hR4.cell 0
    have fR_4_0 : w4.frozen? ⟨w.heap.size + 1 + 1, 0, none⟩ = false := hR4.frozen 0
    have kR_4_1 : w4.cell? ⟨w.heap.size + 1 + 1, 1, none⟩ = some (.slice none 0 0) := hR4.cell 1
    have fR_4_1 : w4.frozen? ⟨w.heap.size + 1 + 1, 1, none⟩ = false := hR4.frozen 1
    have kR_4_2 : w4.cell? ⟨w.heap.size + 1 + 1, 2, none⟩ = some (.slice none 0 0) := hR4.cell 2
    have fR_4_2 : w4.frozen? ⟨w.heap.size + 1 + 1, 2, none⟩ = false := hR4.frozen 2
    have kR_4_3 : w4.cell? ⟨w.heap.size + 1 + 1, 3, none⟩ = some (.int .i64 0) := hR4.cell 3
    have fR_4_3 : w4.frozen? ⟨w.heap.size + 1 + 1, 3, none⟩ = false := hR4.frozen 3
    have kR_4_4 : w4.cell? ⟨w.heap.size + 1 + 1, 4, none⟩ = some (.int .i64 0) := hR4.cell 4
    have fR_4_4 : w4.frozen? ⟨w.heap.size + 1 + 1, 4, none⟩ = false := hR4.frozen 4
    have zR_4 : w.heap.size + 1 + 1 < w4.heap.size := hR4.lt
    have kX_4_0 : w4.cell? ⟨WX.heap.size, 0, none⟩ = some (.slice Ad0 (List.length X.1) cd0) := hX4.cell 0
    have fX_4_0 : w4.frozen? ⟨WX.heap.size, 0, none⟩ = false := hX4.frozen 0
    have kX_4_1 : w4.cell? ⟨WX.heap.size, 1, none⟩ = some (.slice Ad1 (List.length X.2.1) cd1) := hX4.cell 1
    have fX_4_1 : w4.frozen? ⟨WX.heap.size, 1, none⟩ = false := hX4.frozen 1
    have kX_4_2 : w4.cell? ⟨WX.heap.size, 2, none⟩ = some (.slice Ad2 (List.length X.2.2.1) cd2) := hX4.cell 2
    have fX_4_2 : w4.frozen? ⟨WX.heap.size, 2, none⟩ = false := hX4.frozen 2
    have kX_4_3 : w4.cell? ⟨WX.heap.size, 3, none⟩ = some (.int .i64 X.2.2.2.1) := hX4.cell 3
    have fX_4_3 : w4.frozen? ⟨WX.heap.size, 3, none⟩ = false := hX4.frozen 3
    have kX_4_4 : w4.cell? ⟨WX.heap.size, 4, none⟩ = some (.int .i64 X.2.2.2.2) := hX4.cell 4
    have fX_4_4 : w4.frozen? ⟨WX.heap.size, 4, none⟩ = false := hX4.frozen 4
    have zX_4 : WX.heap.size < w4.heap.size := hX4.lt
    by_cases hz : f_SecretOf l by_ = 0
    · have q0 : (f_SecretOf l by_ == 0) = true := by simp [hz]
      have HFF : Hid (F1 = false) := by show _ = _; rw [HF1.out, hz]; rfl
      clear hz
      go_wp2
      refine bodyPost_ret (v := .tuple #[.agg #[.slice none 0 0, .slice none 0 0, .slice none 0 0, .int .i64 0, .int .i64 0], .bool false]) (by simp [results, Tryz.results36, go_sem, kR_4_0, fR_4_0, kR_4_1, fR_4_1, kR_4_2, fR_4_2, kR_4_3, fR_4_3, kR_4_4, fR_4_4, kX_4_0, fX_4_0, kX_4_1, fX_4_1, kX_4_2, fX_4_2, kX_4_3, fX_4_3, kX_4_4, fX_4_4, zR_4, zX_4]) rfl ?_
      rw [HNO.out HFF.out, HFF.out]
      exact ⟨_, _, rfl, ow_zeroData _, fr_zero _ _, (by (repeat' (first | (with_reducible exact Below.refl _ _) | (with_reducible assumption) | (with_reducible refine bel_set ?_ (by (try dsimp only); omega) _) | (with_reducible refine bel_alloc ?_ _) | (with_reducible refine bel_drewN ?_ _) | (with_reducible refine bel_drew ?_) | (with_reducible refine bel_trans ?_ (by assumption)))); done)⟩
    have q0 : (f_SecretOf l by_ == 0) = false := by simp [hz]
    have HZ : Hid (decide (f_SecretOf l by_ = 0) = false) := by show _ = _; simp [hz]
    clear hz
    go_wp2_with fail
    refine (C_spec_ValidDataG _ _ X (Ty.rd_below hb4 (Ty.ow_rd (Ty.ow_keep (by intro b hb'; have hb'' := (hfrx).2 b hb'; (try simp only [World.size_alloc, World.size_setCell, size_drewN, World.size_drew] at hb''); repeat (first | (with_reducible rfl) | (rw [Below.heap_setCell _ _ _ _ (by (try dsimp only); omega)]) | (rw [Below.heap_alloc _ _ _ (by (try simp only [World.size_alloc, World.size_setCell]); omega)]))) howx)))).mono ?_
    rintro e w5 ⟨rfl, hb5⟩
    have hz5 := hb5.size
    have hx5 : Below WX.heap.size WX w5 := bel_trans hx4 hb5
    have hw5 : Below w.heap.size w w5 := bel_trans hvb hx5
    clear kR_4_0 fR_4_0 kR_4_1 fR_4_1 kR_4_2 fR_4_2 kR_4_3 fR_4_3 kR_4_4 fR_4_4 kX_4_0 fX_4_0 kX_4_1 fX_4_1 kX_4_2 fX_4_2 kX_4_3 fX_4_3 kX_4_4 fX_4_4
    obtain ⟨hK5, hN5, hR5⟩ := HB.out _ (hx5)
    have hX5 : Blk w5 (WX.heap.size) 34 #[.slice Ad0 (List.length X.1) cd0, .slice Ad1 (List.length X.2.1) cd1, .slice Ad2 (List.length X.2.2.1) cd2, .int .i64 X.2.2.2.1, .int .i64 X.2.2.2.2] := hX4.below hb5 (hX4.lt)
    have kR_5_0 : w5.cell? ⟨w.heap.size + 1 + 1, 0, none⟩ = some (.slice none 0 0) := hR5.cell 0
    have fR_5_0 : w5.frozen? ⟨w.heap.size + 1 + 1, 0, none⟩ = false := hR5.frozen 0
    have kR_5_1 : w5.cell? ⟨w.heap.size + 1 + 1, 1, none⟩ = some (.slice none 0 0) := hR5.cell 1
    have fR_5_1 : w5.frozen? ⟨w.heap.size + 1 + 1, 1, none⟩ = false := hR5.frozen 1
    have kR_5_2 : w5.cell? ⟨w.heap.size + 1 + 1, 2, none⟩ = some (.slice none 0 0) := hR5.cell 2
    have fR_5_2 : w5.frozen? ⟨w.heap.size + 1 + 1, 2, none⟩ = false := hR5.frozen 2
    have kR_5_3 : w5.cell? ⟨w.heap.size + 1 + 1, 3, none⟩ = some (.int .i64 0) := hR5.cell 3
    have fR_5_3 : w5.frozen? ⟨w.heap.size + 1 + 1, 3, none⟩ = false := hR5.frozen 3
    have kR_5_4 : w5.cell? ⟨w.heap.size + 1 + 1, 4, none⟩ = some (.int .i64 0) := hR5.cell 4
    have fR_5_4 : w5.frozen? ⟨w.heap.size + 1 + 1, 4, none⟩ = false := hR5.frozen 4
    have zR_5 : w.heap.size + 1 + 1 < w5.heap.size := hR5.lt
    have kX_5_0 : w5.cell? ⟨WX.heap.size, 0, none⟩ = some (.slice Ad0 (List.length X.1) cd0) := hX5.cell 0
    have fX_5_0 : w5.frozen? ⟨WX.heap.size, 0, none⟩ = false := hX5.frozen 0
    have kX_5_1 : w5.cell? ⟨WX.heap.size, 1, none⟩ = some (.slice Ad1 (List.length X.2.1) cd1) := hX5.cell 1
    have fX_5_1 : w5.frozen? ⟨WX.heap.size, 1, none⟩ = false := hX5.frozen 1
    have kX_5_2 : w5.cell? ⟨WX.heap.size, 2, none⟩ = some (.slice Ad2 (List.length X.2.2.1) cd2) := hX5.cell 2
    have fX_5_2 : w5.frozen? ⟨WX.heap.size, 2, none⟩ = false := hX5.frozen 2
    have kX_5_3 : w5.cell? ⟨WX.heap.size, 3, none⟩ = some (.int .i64 X.2.2.2.1) := hX5.cell 3
    have fX_5_3 : w5.frozen? ⟨WX.heap.size, 3, none⟩ = false := hX5.frozen 3
    have kX_5_4 : w5.cell? ⟨WX.heap.size, 4, none⟩ = some (.int .i64 X.2.2.2.2) := hX5.cell 4
    have fX_5_4 : w5.frozen? ⟨WX.heap.size, 4, none⟩ = false := hX5.frozen 4
    have zX_5 : WX.heap.size < w5.heap.size := hX5.lt
    cases q1 : f_ValidData X
    · have HFF : Hid (F1 = false) := by show _ = _; rw [HF1.out, HZ.out, q1]; rfl
      clear q1
      go_wp2
      refine bodyPost_ret (v := .tuple #[.agg #[.slice none 0 0, .slice none 0 0, .slice none 0 0, .int .i64 0, .int .i64 0], .bool false]) (by simp [results, Tryz.results36, go_sem, kR_5_0, fR_5_0, kR_5_1, fR_5_1, kR_5_2, fR_5_2, kR_5_3, fR_5_3, kR_5_4, fR_5_4, kX_5_0, fX_5_0, kX_5_1, fX_5_1, kX_5_2, fX_5_2, kX_5_3, fX_5_3, kX_5_4, fX_5_4, zR_5, zX_5]) rfl ?_
      rw [HNO.out HFF.out, HFF.out]
      exact ⟨_, _, rfl, ow_zeroData _, fr_zero _ _, (by (repeat' (first | (with_reducible exact Below.refl _ _) | (with_reducible assumption) | (with_reducible refine bel_set ?_ (by (try dsimp only); omega) _) | (with_reducible refine bel_alloc ?_ _) | (with_reducible refine bel_drewN ?_ _) | (with_reducible refine bel_drew ?_) | (with_reducible refine bel_trans ?_ (by assumption)))); done)⟩
    · have HFF : Hid (F1 = true) := by show _ = _; rw [HF1.out, HZ.out, q1]; rfl
      clear q1
      go_wp2
      refine bodyPost_ret (v := .tuple #[.agg #[.slice Ad0 (List.length X.1) cd0, .slice Ad1 (List.length X.2.1) cd1, .slice Ad2 (List.length X.2.2.1) cd2, .int .i64 X.2.2.2.1, .int .i64 X.2.2.2.2], .bool true]) (by simp [results, Tryz.results36, go_sem, kR_5_0, fR_5_0, kR_5_1, fR_5_1, kR_5_2, fR_5_2, kR_5_3, fR_5_3, kR_5_4, fR_5_4, kX_5_0, fX_5_0, kX_5_1, fX_5_1, kX_5_2, fX_5_2, kX_5_3, fX_5_3, kX_5_4, fX_5_4, zR_5, zX_5]) rfl ?_
      rw [HYES.out HFF.out, HFF.out]
      exact ⟨_, fpx, rfl, Ty.ow_keep (by intro b hb'; have hb'' := (hfrx).2 b hb'; (try simp only [World.size_alloc, World.size_setCell, size_drewN, World.size_drew] at hb''); repeat (first | (with_reducible rfl) | (rw [Below.heap_setCell _ _ _ _ (by (try dsimp only); omega)]) | (rw [Below.heap_alloc _ _ _ (by (try simp only [World.size_alloc, World.size_setCell]); omega)]) | (rw [hb5.block _ (by (try simp only [World.size_alloc, World.size_setCell, size_drewN, World.size_drew]); omega)]) | (rw [hb4.block _ (by (try simp only [World.size_alloc, World.size_setCell, size_drewN, World.size_drew]); omega)]))) howx, hfrx.mono (by (try simp only [World.size_alloc, World.size_drew, size_drewN] at *); omega) (by (try simp only [World.size_alloc, World.size_setCell, size_drewN, World.size_drew]); omega), (by (repeat' (first | (with_reducible exact Below.refl _ _) | (with_reducible assumption) | (with_reducible refine bel_set ?_ (by (try dsimp only); omega) _) | (with_reducible refine bel_alloc ?_ _) | (with_reducible refine bel_drewN ?_ _) | (with_reducible refine bel_drew ?_) | (with_reducible refine bel_trans ?_ (by assumption)))); done)⟩
theorem C_impl_SignWithKey (w : World) (v0 : Value) (l : List (Ty.D tKey)) (cs1 : List Value) (by_ : List (List UInt8)) (cs2 : List Value) (n : List (List UInt8)) (v3 : Value) (b : List UInt8) (till : Int) (h0 : (Ty.sl tKey).rd w [v0] l) (h1 : (Ty.sl .str).rd w cs1 by_) (h2 : (Ty.sl .str).rd w cs2 n) (h3 : (Ty.sl .byte).rd w [v3] b) (s0 : Ty.bulk (.sl tKey) l ≤ 1048576) (s1 : Ty.bulk (.sl .str) by_ ≤ 1048576) (s2 : Ty.bulk (.sl .str) n ≤ 1048576) (s3 : Ty.bulk (.sl .byte) b ≤ 1048576) (i4 : -9223372036854775808 ≤ till ∧ till ≤ 9223372036854775807) :
    Calls Tryz.prog 34 #[v0, .agg cs1.toArray, .agg cs2.toArray, v3, .int .i64 till] w (RetAgg2 w tData (f0_SignWithKey l by_ n b till) (.bool (f1_SignWithKey l by_ n b till))) := C_impl_SignWithKeyB w v0 l cs1 by_ cs2 n v3 b till h0 h1 h2 h3 s0 s1 s2 s3 i4
end Go.Proofs.YtldgbnlcnlfmeaaGreat
