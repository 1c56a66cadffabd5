/- Texts of this claim, merged by a program: Iss Pat Pvl Has Vru Ixf. -/
import Derived.Test.YtldgbnlcnlfmeaaGreatQtP
import Derived.Test.YtldgbnlcnlfmeaaGreatQt8
import Derived.Test.YtldgbnlcnlfmeaaGreatQt2
import Derived.Test.YtldgbnlcnlfmeaaGreatQt6
namespace Go.Proofs.YtldgbnlcnlfmeaaGreat
open Go.RowKit
set_option linter.unusedVariables false
set_option linter.unusedSimpArgs false
def f0_IssueCertificate (l : List (Ty.D tKey)) (n by_ : List (List UInt8)) (till : Int) : tData.D := f0_SignWithKey l by_ n (f_KeyDigest l n) till
def f1_IssueCertificate (l : List (Ty.D tKey)) (n by_ : List (List UInt8)) (till : Int) : Bool := f1_SignWithKey l by_ n (f_KeyDigest l n) till
theorem kdg_bulk (l : List (Ty.D tKey)) (n : List (List UInt8)) : Ty.bulk (.sl .byte) (f_KeyDigest l n) ≤ 1048576 := by
 rw [Ty.bulk_flat (fun _ => rfl)]
 unfold f_KeyDigest
 split
 ·simp
 ·have := appendVarint_len [] (digest [f_SecretOf l n])
  simp only [List.length_nil] at this
  exact Nat.le_trans this b_36
set_option maxRecDepth 100000 in
set_option maxHeartbeats 1000000 in
theorem C_impl_IssueCertificate (w : World) (v0 : Value) (l : List (Ty.D tKey)) (cs1 : List Value) (n : List (List UInt8)) (cs2 : List Value) (by_ : List (List UInt8)) (till : Int) (h0 : (Ty.sl tKey).rd w [v0] l) (h1 : (Ty.sl .str).rd w cs1 n) (h2 : (Ty.sl .str).rd w cs2 by_) (s0 : Ty.bulk (.sl tKey) l ≤ 1048576) (s1 : Ty.bulk (.sl .str) n ≤ 1048576) (s2 : Ty.bulk (.sl .str) by_ ≤ 1048576) (i3 : -9223372036854775808 ≤ till ∧ till ≤ 9223372036854775807) :
  Calls Tryz.prog 14 #[v0, .agg cs1.toArray, .agg cs2.toArray, .int .i64 till] w (RetAgg2 w tData (f0_IssueCertificate l n by_ till) (.bool (f1_IssueCertificate l n by_ till))) := by
 obtain ⟨An, cn, rfl⟩ := Ty.rd_slv h1
 obtain ⟨Ak, ck, rfl⟩ := Ty.rd_slv h2
 have hkb := kdg_bulk l n
 have hF0 : f0_IssueCertificate l n by_ till = f0_SignWithKey l by_ n (f_KeyDigest l n) till := rfl
 have hF1 : f1_IssueCertificate l n by_ till = f1_SignWithKey l by_ n (f_KeyDigest l n) till := rfl
 generalize f0_IssueCertificate l n by_ till = F0 at hF0 ⊢
 generalize f1_IssueCertificate l n by_ till = F1 at hF1 ⊢
 have HF0 := Lib.hid hF0
 have HF1 := Lib.hid hF1
 clear hF0 hF1
 have hBN : Blk (((w.alloc (.cells #[.slice An n.length cn] 32)).alloc (.cells #[.slice Ak by_.length ck] 32)).alloc (.cells #[.slice none 0 0, .slice none 0 0, .slice none 0 0, .int .i64 0, .int .i64 0] 34)) (w.heap.size) 32 #[.slice An n.length cn] := ((Blk.new w 32 #[.slice An n.length cn]).alloc _).alloc _
 have hBK : Blk (((w.alloc (.cells #[.slice An n.length cn] 32)).alloc (.cells #[.slice Ak by_.length ck] 32)).alloc (.cells #[.slice none 0 0, .slice none 0 0, .slice none 0 0, .int .i64 0, .int .i64 0] 34)) (w.heap.size + 1) 32 #[.slice Ak by_.length ck] := (show Blk ((w.alloc (.cells #[.slice An n.length cn] 32)).alloc (.cells #[.slice Ak by_.length ck] 32)) (w.heap.size + 1) 32 #[.slice Ak by_.length ck] from by have := Blk.new (w.alloc (.cells #[.slice An n.length cn] 32)) 32 #[.slice Ak by_.length ck]; rwa [World.size_alloc] at this).alloc _
 have hBR : Blk (((w.alloc (.cells #[.slice An n.length cn] 32)).alloc (.cells #[.slice Ak by_.length ck] 32)).alloc (.cells #[.slice none 0 0, .slice none 0 0, .slice none 0 0, .int .i64 0, .int .i64 0] 34)) (w.heap.size + 1 + 1) 34 #[.slice none 0 0, .slice none 0 0, .slice none 0 0, .int .i64 0, .int .i64 0] := by have := Blk.new ((w.alloc (.cells #[.slice An n.length cn] 32)).alloc (.cells #[.slice Ak by_.length ck] 32)) 34 #[.slice none 0 0, .slice none 0 0, .slice none 0 0, .int .i64 0, .int .i64 0]; rwa [World.size_alloc, World.size_alloc] at this
 have hvb : Below w.heap.size w (((w.alloc (.cells #[.slice An n.length cn] 32)).alloc (.cells #[.slice Ak by_.length ck] 32)).alloc (.cells #[.slice none 0 0, .slice none 0 0, .slice none 0 0, .int .i64 0, .int .i64 0] 34)) := b_10
 have zb : w.heap.size + 1 + 1 < (((w.alloc (.cells #[.slice An n.length cn] 32)).alloc (.cells #[.slice Ak by_.length ck] 32)).alloc (.cells #[.slice none 0 0, .slice none 0 0, .slice none 0 0, .int .i64 0, .int .i64 0] 34)).heap.size := by simp only [World.size_alloc]; omega
 go_enter Tryz.func14, Tryz.ntmps14
 go_wp2_with fail
 generalize (((w.alloc (.cells #[.slice An n.length cn] 32)).alloc (.cells #[.slice Ak by_.length ck] 32)).alloc (.cells #[.slice none 0 0, .slice none 0 0, .slice none 0 0, .int .i64 0, .int .i64 0] 34)) = WX at hBN hBK hBR hvb zb ⊢
 have HB : Hid (∀ W, Below WX.heap.size WX W → Blk W (w.heap.size) 32 #[.slice An n.length cn] ∧ Blk W (w.heap.size + 1) 32 #[.slice Ak by_.length ck] ∧ Blk W (w.heap.size + 1 + 1) 34 #[.slice none 0 0, .slice none 0 0, .slice none 0 0, .int .i64 0, .int .i64 0]) := fun W hW => ⟨hBN.below hW b_37, hBK.below hW b_37, hBR.below hW zb⟩
 clear hBN hBK hBR
 have HS : Hid (∀ W, Below WX.heap.size WX W → Below WX.heap.size WX W ∧ W.cell? ⟨w.heap.size, 0, none⟩ = some (.slice An n.length cn) ∧ W.cell? ⟨w.heap.size + 1, 0, none⟩ = some (.slice Ak by_.length ck)) := fun W hW => ⟨hW, (HB.out W hW).1.cell 0, (HB.out W hW).2.1.cell 0⟩
 have hv0 : Below WX.heap.size WX WX := Below.refl _ _
 have zb1 : w.heap.size < WX.heap.size := by omega
 have zb2 : w.heap.size + 1 < WX.heap.size := by omega
 refine wp_region_noPanic ?_
 refine wp_region_held_drew (S := (fun W => Below w.heap.size w W ∧ W.cell? ⟨w.heap.size, 0, none⟩ = some (.slice An n.length cn) ∧ W.cell? ⟨w.heap.size + 1, 0, none⟩ = some (.slice Ak by_.length ck))) b_35 ?_ (fun hHeld => ?_)
 ·exact ⟨b_4, (HS.out _ b_4).2⟩
 refine tkz4 0 1 2 3 ?_
 try simp only [layz]
 refine tkz2 4 6 ?_
 try simp only [layz]
 refine rz1 5 (fun K hK => ?_)
 go_simp
 go_at_call 27
 refine (C_impl_KeyDigest _ _ l _ n (Ty.rd_below b_4 (Ty.rd_below hvb h0)) (Ty.rd_below b_4 (Ty.rd_below hvb h1)) s0 s1).mono ?_
 rintro e w1 ⟨A1, c1, fp1, rfl, how1, hfr1, hb1⟩
 have hx1 : Below WX.heap.size WX w1 := b_4
 refine hK.out _ _ (⟨b_4, (HS.out _ b_4).2⟩) (fun hHeld => ?_)
 clear hK K
 try simp only [layz]
 refine rz1 7 (fun K hK => ?_)
 go_simp
 go_at_call 34
 refine (C_impl_SignWithKeyB _ _ l _ by_ _ n _ (f_KeyDigest l n) till (Ty.rd_below b_4 (Ty.rd_below hvb h0)) (Ty.rd_below b_4 (Ty.rd_below hvb h2)) (Ty.rd_below b_4 (Ty.rd_below hvb h1)) (Ty.rd_below b_4 (Ty.ow_rd how1)) s0 s2 s1 hkb i3).mono ?_
 rw [← HF0.out, ← HF1.out]
 rintro e w2 ⟨csx, fpx, rfl, howx, hfrx, hb2⟩
 obtain ⟨Ad0, cd0, Ad1, cd1, Ad2, cd2, rfl⟩ := ow_Data howx
 have hx2 : Below WX.heap.size WX w2 := b_4
 have hw2 : Below w.heap.size w w2 := bel_trans hvb hx2
 have hfr2 : FrI WX.heap.size w2.heap.size fpx := hfrx.mono (by have := hx1.size; (try simp only [World.size_drew, size_drewN]); omega) (Nat.le_refl _)
 refine hK.out _ _ (⟨b_4, (HS.out _ b_4).2⟩) (fun hHeld => ?_)
 clear hK K
 try simp only [layz]
 obtain ⟨hN2, hK2, hR2⟩ := HB.out _ hx2
 obtain ⟨kR_2_0, kR_2_1, kR_2_2, kR_2_3, kR_2_4, fR_2_0, fR_2_1, fR_2_2, fR_2_3, fR_2_4, zR_2⟩ := bk5 hR2
 refine tkz2 8 9 ?_
 try simp only [layz]
 refine rz1 10 (fun K hK => ?_)
 go_simp
 refine hK.out _ _ (⟨b_4, ((((((hN2.far (p := ⟨w.heap.size + 1 + 1, 0, none⟩) b_34 _).far (p := ⟨w.heap.size + 1 + 1, 1, none⟩) b_34 _).far (p := ⟨w.heap.size + 1 + 1, 2, none⟩) b_34 _).far (p := ⟨w.heap.size + 1 + 1, 3, none⟩) b_34 _).far (p := ⟨w.heap.size + 1 + 1, 4, none⟩) b_34 _).cell 0), ((((((hK2.far (p := ⟨w.heap.size + 1 + 1, 0, none⟩) b_34 _).far (p := ⟨w.heap.size + 1 + 1, 1, none⟩) b_34 _).far (p := ⟨w.heap.size + 1 + 1, 2, none⟩) b_34 _).far (p := ⟨w.heap.size + 1 + 1, 3, none⟩) b_34 _).far (p := ⟨w.heap.size + 1 + 1, 4, none⟩) b_34 _).cell 0)⟩) (fun hHeld => ?_)
 clear hK K
 try simp only [layz]
 refine tkz 11 ?_
 try simp only [layz]
 refine wpAnyH_done b_35 ?_ _
 refine NoPanic.normal ?_
 go_wp2
 refine bodyPost_ret (v := .tuple #[.agg #[.slice Ad0 (List.length F0.1) cd0, .slice Ad1 (List.length F0.2.1) cd1, .slice Ad2 (List.length F0.2.2.1) cd2, .int .i64 F0.2.2.2.1, .int .i64 F0.2.2.2.2], .bool F1]) (by simp [results, Tryz.results14, go_sem, kR_2_0, fR_2_0, kR_2_1, fR_2_1, kR_2_2, fR_2_2, kR_2_3, fR_2_3, kR_2_4, fR_2_4, zR_2]) rfl ?_
 refine ⟨_, fpx, rfl, ?_, ?_, ?_⟩
 ·exact Ty.ow_keep (by intro b hb'; have hb'' := (hfr2).2 b hb'; (try simp only [szz] at hb''); repeat (first | (with_reducible rfl) | (rw [Below.heap_setCell _ _ _ _ b_33]) | (rw [Below.heap_alloc _ _ _ b_23]))) howx
 ·exact hfr2.mono b_37 b_32
 ·exact b_4
set_option maxRecDepth 100000 in
set_option maxHeartbeats 1000000 in
theorem C_spec_IssueCertificate (w : World) (v0 : Value) (l : List (Ty.D tKey)) (cs1 : List Value) (n : List (List UInt8)) (cs2 : List Value) (by_ : List (List UInt8)) (till : Int) (h0 : (Ty.sl tKey).rd w [v0] l) (h1 : (Ty.sl .str).rd w cs1 n) (h2 : (Ty.sl .str).rd w cs2 by_) (s0 : Ty.bulk (.sl tKey) l ≤ 1048576) (s1 : Ty.bulk (.sl .str) n ≤ 1048576) (s2 : Ty.bulk (.sl .str) by_ ≤ 1048576) (i3 : -9223372036854775808 ≤ till ∧ till ≤ 9223372036854775807) :
  Calls Tryz.prog 15 #[v0, .agg cs1.toArray, .agg cs2.toArray, .int .i64 till] w (RetAgg2 w tData (f0_IssueCertificate l n by_ till) (.bool (f1_IssueCertificate l n by_ till))) := by
 obtain ⟨An, cn, rfl⟩ := Ty.rd_slv h1
 obtain ⟨Ak, ck, rfl⟩ := Ty.rd_slv h2
 have hkb := kdg_bulk l n
 have hF0 : f0_IssueCertificate l n by_ till = f0_SignWithKey l by_ n (f_KeyDigest l n) till := rfl
 have hF1 : f1_IssueCertificate l n by_ till = f1_SignWithKey l by_ n (f_KeyDigest l n) till := rfl
 generalize f0_IssueCertificate l n by_ till = F0 at hF0 ⊢
 generalize f1_IssueCertificate l n by_ till = F1 at hF1 ⊢
 have HF0 := Lib.hid hF0
 have HF1 := Lib.hid hF1
 clear hF0 hF1
 have hBN : Blk (((w.alloc (.cells #[.slice An n.length cn] 32)).alloc (.cells #[.slice Ak by_.length ck] 32)).alloc (.cells #[.slice none 0 0, .slice none 0 0, .slice none 0 0, .int .i64 0, .int .i64 0] 34)) (w.heap.size) 32 #[.slice An n.length cn] := ((Blk.new w 32 #[.slice An n.length cn]).alloc _).alloc _
 have hBK : Blk (((w.alloc (.cells #[.slice An n.length cn] 32)).alloc (.cells #[.slice Ak by_.length ck] 32)).alloc (.cells #[.slice none 0 0, .slice none 0 0, .slice none 0 0, .int .i64 0, .int .i64 0] 34)) (w.heap.size + 1) 32 #[.slice Ak by_.length ck] := (show Blk ((w.alloc (.cells #[.slice An n.length cn] 32)).alloc (.cells #[.slice Ak by_.length ck] 32)) (w.heap.size + 1) 32 #[.slice Ak by_.length ck] from by have := Blk.new (w.alloc (.cells #[.slice An n.length cn] 32)) 32 #[.slice Ak by_.length ck]; rwa [World.size_alloc] at this).alloc _
 have hBR : Blk (((w.alloc (.cells #[.slice An n.length cn] 32)).alloc (.cells #[.slice Ak by_.length ck] 32)).alloc (.cells #[.slice none 0 0, .slice none 0 0, .slice none 0 0, .int .i64 0, .int .i64 0] 34)) (w.heap.size + 1 + 1) 34 #[.slice none 0 0, .slice none 0 0, .slice none 0 0, .int .i64 0, .int .i64 0] := by have := Blk.new ((w.alloc (.cells #[.slice An n.length cn] 32)).alloc (.cells #[.slice Ak by_.length ck] 32)) 34 #[.slice none 0 0, .slice none 0 0, .slice none 0 0, .int .i64 0, .int .i64 0]; rwa [World.size_alloc, World.size_alloc] at this
 have hvb : Below w.heap.size w (((w.alloc (.cells #[.slice An n.length cn] 32)).alloc (.cells #[.slice Ak by_.length ck] 32)).alloc (.cells #[.slice none 0 0, .slice none 0 0, .slice none 0 0, .int .i64 0, .int .i64 0] 34)) := b_10
 have zb : w.heap.size + 1 + 1 < (((w.alloc (.cells #[.slice An n.length cn] 32)).alloc (.cells #[.slice Ak by_.length ck] 32)).alloc (.cells #[.slice none 0 0, .slice none 0 0, .slice none 0 0, .int .i64 0, .int .i64 0] 34)).heap.size := by simp only [World.size_alloc]; omega
 go_enter Tryz.func15, Tryz.ntmps15
 go_wp2_with fail
 generalize (((w.alloc (.cells #[.slice An n.length cn] 32)).alloc (.cells #[.slice Ak by_.length ck] 32)).alloc (.cells #[.slice none 0 0, .slice none 0 0, .slice none 0 0, .int .i64 0, .int .i64 0] 34)) = WX at hBN hBK hBR hvb zb ⊢
 have HB : Hid (∀ W, Below WX.heap.size WX W → Blk W (w.heap.size) 32 #[.slice An n.length cn] ∧ Blk W (w.heap.size + 1) 32 #[.slice Ak by_.length ck] ∧ Blk W (w.heap.size + 1 + 1) 34 #[.slice none 0 0, .slice none 0 0, .slice none 0 0, .int .i64 0, .int .i64 0]) := fun W hW => ⟨hBN.below hW b_37, hBK.below hW b_37, hBR.below hW zb⟩
 clear hBN hBK hBR
 have HS : Hid (∀ W, Below WX.heap.size WX W → Below WX.heap.size WX W ∧ W.cell? ⟨w.heap.size, 0, none⟩ = some (.slice An n.length cn) ∧ W.cell? ⟨w.heap.size + 1, 0, none⟩ = some (.slice Ak by_.length ck)) := fun W hW => ⟨hW, (HB.out W hW).1.cell 0, (HB.out W hW).2.1.cell 0⟩
 have hv0 : Below WX.heap.size WX WX := Below.refl _ _
 have zb1 : w.heap.size < WX.heap.size := by omega
 have zb2 : w.heap.size + 1 < WX.heap.size := by omega
 refine wp_region_noPanic ?_
 refine wp_region_held_drew (S := (fun W => Below w.heap.size w W ∧ W.cell? ⟨w.heap.size, 0, none⟩ = some (.slice An n.length cn) ∧ W.cell? ⟨w.heap.size + 1, 0, none⟩ = some (.slice Ak by_.length ck))) b_35 ?_ (fun hHeld => ?_)
 ·exact ⟨b_4, (HS.out _ b_4).2⟩
 refine tkz4 0 1 2 3 ?_
 try simp only [layz]
 refine tkz2 4 6 ?_
 try simp only [layz]
 refine rz1 5 (fun K hK => ?_)
 go_simp
 go_at_call 28
 refine (C_spec_KeyDigest _ _ l _ n (Ty.rd_below b_4 (Ty.rd_below hvb h0)) (Ty.rd_below b_4 (Ty.rd_below hvb h1)) s0 s1).mono ?_
 rintro e w1 ⟨A1, c1, fp1, rfl, how1, hfr1, hb1⟩
 have hx1 : Below WX.heap.size WX w1 := b_4
 refine hK.out _ _ (⟨b_4, (HS.out _ b_4).2⟩) (fun hHeld => ?_)
 clear hK K
 try simp only [layz]
 refine rz1 7 (fun K hK => ?_)
 go_simp
 go_at_call 36
 refine (C_spec_SignWithKeyB _ _ l _ by_ _ n _ (f_KeyDigest l n) till (Ty.rd_below b_4 (Ty.rd_below hvb h0)) (Ty.rd_below b_4 (Ty.rd_below hvb h2)) (Ty.rd_below b_4 (Ty.rd_below hvb h1)) (Ty.rd_below b_4 (Ty.ow_rd how1)) s0 s2 s1 hkb i3).mono ?_
 rw [← HF0.out, ← HF1.out]
 rintro e w2 ⟨csx, fpx, rfl, howx, hfrx, hb2⟩
 obtain ⟨Ad0, cd0, Ad1, cd1, Ad2, cd2, rfl⟩ := ow_Data howx
 have hx2 : Below WX.heap.size WX w2 := b_4
 have hw2 : Below w.heap.size w w2 := bel_trans hvb hx2
 have hfr2 : FrI WX.heap.size w2.heap.size fpx := hfrx.mono (by have := hx1.size; (try simp only [World.size_drew, size_drewN]); omega) (Nat.le_refl _)
 refine hK.out _ _ (⟨b_4, (HS.out _ b_4).2⟩) (fun hHeld => ?_)
 clear hK K
 try simp only [layz]
 obtain ⟨hN2, hK2, hR2⟩ := HB.out _ hx2
 obtain ⟨kR_2_0, kR_2_1, kR_2_2, kR_2_3, kR_2_4, fR_2_0, fR_2_1, fR_2_2, fR_2_3, fR_2_4, zR_2⟩ := bk5 hR2
 refine tkz2 8 9 ?_
 try simp only [layz]
 refine rz1 10 (fun K hK => ?_)
 go_simp
 refine hK.out _ _ (⟨b_4, ((((((hN2.far (p := ⟨w.heap.size + 1 + 1, 0, none⟩) b_34 _).far (p := ⟨w.heap.size + 1 + 1, 1, none⟩) b_34 _).far (p := ⟨w.heap.size + 1 + 1, 2, none⟩) b_34 _).far (p := ⟨w.heap.size + 1 + 1, 3, none⟩) b_34 _).far (p := ⟨w.heap.size + 1 + 1, 4, none⟩) b_34 _).cell 0), ((((((hK2.far (p := ⟨w.heap.size + 1 + 1, 0, none⟩) b_34 _).far (p := ⟨w.heap.size + 1 + 1, 1, none⟩) b_34 _).far (p := ⟨w.heap.size + 1 + 1, 2, none⟩) b_34 _).far (p := ⟨w.heap.size + 1 + 1, 3, none⟩) b_34 _).far (p := ⟨w.heap.size + 1 + 1, 4, none⟩) b_34 _).cell 0)⟩) (fun hHeld => ?_)
 clear hK K
 try simp only [layz]
 refine tkz 11 ?_
 try simp only [layz]
 refine wpAnyH_done b_35 ?_ _
 refine NoPanic.normal ?_
 go_wp2
 refine bodyPost_ret (v := .tuple #[.agg #[.slice Ad0 (List.length F0.1) cd0, .slice Ad1 (List.length F0.2.1) cd1, .slice Ad2 (List.length F0.2.2.1) cd2, .int .i64 F0.2.2.2.1, .int .i64 F0.2.2.2.2], .bool F1]) (by simp [results, Tryz.results15, go_sem, kR_2_0, fR_2_0, kR_2_1, fR_2_1, kR_2_2, fR_2_2, kR_2_3, fR_2_3, kR_2_4, fR_2_4, zR_2]) rfl ?_
 refine ⟨_, fpx, rfl, ?_, ?_, ?_⟩
 ·exact Ty.ow_keep (by intro b hb'; have hb'' := (hfr2).2 b hb'; (try simp only [szz] at hb''); repeat (first | (with_reducible rfl) | (rw [Below.heap_setCell _ _ _ _ b_33]) | (rw [Below.heap_alloc _ _ _ b_23]))) howx
 ·exact hfr2.mono b_37 b_32
 ·exact b_4
theorem isVar_len {s : List UInt8} (h : ¬ s.length = 2) : isVar s = false := by
 match s, h with
 | [], _ => rfl
 | [a], _ => rfl
 | [a, b], h => simp at h
 | a :: b :: c :: l, _ => rfl
theorem isVar_iff (s : List UInt8) (h : s.length = 2) (c0 c1 : Int) (hc0 : c0 = (s[0].toNat : Int)) (hc1 : c1 = (s[1].toNat : Int)) : isVar s = true ↔ c0 = 63 ∧ 97 ≤ c1 ∧ c1 ≤ 122 := by
 match s, h with
 | [a, b], _ =>
  subst hc0; subst hc1
  show isVar [a, b] = true ↔ ((a.toNat : Nat) : Int) = 63 ∧ 97 ≤ ((b.toNat : Nat) : Int) ∧ ((b.toNat : Nat) : Int) ≤ 122
  have e : a = 63 ↔ a.toNat = 63 := ⟨fun h => by rw [h]; rfl, fun h => UInt8.toNat_inj.1 (by rw [h]; rfl)⟩
  simp only [isVar, Bool.and_eq_true, decide_eq_true_eq]
  try rw [e]
  omega
set_option maxHeartbeats 1000000 in
theorem C_impl_isVariable (w : World) (s : List UInt8) (hs : s.length ≤ 9223372036854775807) : Calls Tryz.prog 156 #[vS s] w (RetBP w (isVar s)) := by
 by_cases h2 : s.length = 2
 ·have h0 : 0 < s.length := by omega
  have h1 : 1 < s.length := by omega
  go_enter Tryz.func156, Tryz.ntmps156
  go_wp2
  all_goals go_ret
  all_goals exact ⟨ret_bool (by rw [Bool.eq_iff_iff, isVar_iff s h2 _ _ (bytes_at s 0 h0 h0) (bytes_at s 1 h1 h1)]; simp; try omega), rfl⟩
 ·have HF := Lib.hid (isVar_len h2)
  go_enter Tryz.func156, Tryz.ntmps156
  go_wp2
  go_ret
  exact ⟨ret_bool HF.out.symm, rfl⟩
set_option maxHeartbeats 1000000 in
theorem C_spec_l5Letter (w : World) (s : List UInt8) (hs : s.length ≤ 9223372036854775807) : Calls Tryz.prog 159 #[vS s] w (RetBP w (isVar s)) := by
  by_cases h2 : s.length = 2
  · have h0 : 0 < s.length := by omega
    have h1 : 1 < s.length := by omega
    have hb1 := bytes_at s 1 h1 h1
    have hlt := s[1].toNat_lt
    go_enter Tryz.func159, Tryz.ntmps159
    go_wp2_with fail
    all_goals first
      | (refine (C_spec_l1In _ _ _ _).mono ?_
         rintro e w1 ⟨rfl, rfl⟩
         go_wp2
         all_goals go_ret
         all_goals exact ⟨ret_bool (by rw [Bool.eq_iff_iff, isVar_iff s h2 _ _ (bytes_at s 0 h0 h0) (bytes_at s 1 h1 h1)]; unfold inR; rw [wrap64_in _ b_37]; simp; try omega), rfl⟩)
      | (go_wp2
         all_goals go_ret
         all_goals exact ⟨ret_bool (by rw [Bool.eq_iff_iff, isVar_iff s h2 _ _ (bytes_at s 0 h0 h0) (bytes_at s 1 h1 h1)]; simp; try omega), rfl⟩)
  · have HF := Lib.hid (isVar_len h2)
    go_enter Tryz.func159, Tryz.ntmps159
    go_wp2
    go_ret
    exact ⟨ret_bool HF.out.symm, rfl⟩
def patUpto (p : List (List UInt8)) (k : Nat) : Bool := (List.range k).all (fun i => patPart p.length i (p.getD i []))
theorem patUpto_succ (p : List (List UInt8)) {k : Nat} (h : k < p.length) : patUpto p (k + 1) = (patUpto p k && patPart p.length k p[k]) := by
 unfold patUpto; rw [List.range_succ, List.all_append]; simp [List.getD, h]
theorem part_42 : validPart [42, 42] = false := by decide
theorem var_42 : isVar [42, 42] = false := by decide
theorem validPat_no (p : List (List UInt8)) {k : Nat} (h : k < p.length) (hq : patPart p.length k p[k] = false) : validPat p = false := by
 have : (List.range p.length).all (fun i => patPart p.length i (p.getD i [])) = false := by
  rw [List.all_eq_false]; exact ⟨k, by simpa using h, by simp [List.getD, h, hq]⟩
 unfold validPat; rw [this]; rfl
set_option maxHeartbeats 2000000 in
theorem C_spec_ValidPattern (w : World) (cs : List Value) (p : List (List UInt8)) (h : (Ty.sl .str).rd w cs p) :
    Calls Tryz.prog 158 #[.agg cs.toArray] w (RetB w (validPat p)) := by
  obtain ⟨A, c, rfl⟩ := Ty.rd_slv h
  obtain ⟨_, _, _, _, _, n0⟩ := Ty.rd_sl h
  go_enter Tryz.func158, Tryz.ntmps158
  go_wp2
  go_loopw [3] (fun i wr => ∃ k : Nat, k ≤ p.length ∧ i = .int .i64 k ∧ patUpto p k = true ∧ Below (w.alloc (.cells #[.slice A p.length c] 126)).heap.size (w.alloc (.cells #[.slice A p.length c] 126)) wr) (fun i _ => p.length - (intOf i).toNat)
  case atStart => exact ⟨0, by omega, rfl, by rfl, Below.refl _ _⟩
  case round =>
    obtain ⟨k, hk, rfl, ht, hb⟩ := hrel
    have hw : Below w.heap.size w wr := bel_trans b_10 hb
    obtain ⟨hc, hf⟩ := bcell hb
    have HT := Lib.hid ht
    clear ht
    by_cases hlt : k < p.length
    · have HS := Lib.hid (patUpto_succ p hlt)
      have HN := Lib.hid (fun q => validPat_no p hlt q)
      obtain ⟨b, o, ds, rfl, hl, hcell, hrd⟩ := Ty.rd_at (Ty.rd_below hw h) hlt
      obtain ⟨rfl, hsl⟩ := hrd
      have e0 : wr.cell? ⟨b, o + k, none⟩ = some (vS p[k]) := by simpa [Ty.sz] using hcell 0 b_36
      clear hcell hl
      have HP := Lib.hid (show patPart p.length k p[k] = (validPart p[k] || decide (p[k] = [42]) || isVar p[k] || (decide (p[k] = [42, 42]) && decide (k + 1 = p.length))) from rfl)
      go_wp2_with fail
      refine (C_spec_ValidPart _ _ hsl).mono ?_
      rintro e w1 ⟨rfl, rfl⟩
      go_wp2_with fail
      all_goals first
        | exact ⟨⟨k + 1, by omega, by go_num, by rw [HS.out, HT.out, HP.out]; simp [*, part_42, var_42]; try omega, hb⟩, by simp [intOf]; omega⟩
        | (refine (C_spec_l5Letter _ _ hsl).mono ?_
           rintro e w2 ⟨rfl, rfl⟩
           go_wp2
           all_goals (try simp only [Bool.not_eq_false', beq_iff_eq, Bool.not_eq_true', beq_eq_false_iff_ne, bne_iff_ne, bne_eq_false_iff_eq, ne_eq] at *)
           all_goals (try contradiction)
           all_goals first
             | exact ⟨⟨k + 1, by omega, by go_num, by rw [HS.out, HT.out, HP.out]; simp [*, part_42, var_42]; try omega, hb⟩, by simp [intOf]; omega⟩
             | exact ⟨⟨k + 1, by omega, by go_num, by rw [HS.out, HT.out, HP.out]; simp [*, part_42, var_42]; try omega, hb⟩, by simp [intOf]; omega⟩
             | (go_ret
                exact ⟨ret_bool (HN.out (by rw [HP.out]; simp [*, part_42, var_42]; try omega)).symm, hw⟩)
             | (go_ret
                exact ⟨ret_bool (HN.out (by rw [HP.out]; simp [*, part_42, var_42]; try omega)).symm, hw⟩))
    · have HE : Hid (validPat p = decide (p.length ≤ 6)) := by
        have e : k = p.length := by omega
        have := HT.out; rw [e] at this
        unfold patUpto at this; unfold Hid validPat; rw [this]; rfl
      go_wp2
      go_ret
      exact ⟨ret_bool (by rw [HE.out]; (rw [Bool.eq_iff_iff]; simp; try omega)), hw⟩
set_option maxHeartbeats 2000000 in
theorem C_impl_ValidPattern (w : World) (cs : List Value) (p : List (List UInt8)) (h : (Ty.sl .str).rd w cs p) :
    Calls Tryz.prog 155 #[.agg cs.toArray] w (RetB w (validPat p)) := by
  obtain ⟨A, c, rfl⟩ := Ty.rd_slv h
  obtain ⟨_, _, _, _, _, n0⟩ := Ty.rd_sl h
  go_enter Tryz.func155, Tryz.ntmps155
  go_wp2
  go_loopw [8] (fun i wr => ∃ k : Nat, k ≤ p.length ∧ i = .int .i64 k ∧ patUpto p k = true ∧ Below (w.alloc (.cells #[.slice A p.length c] 126)).heap.size (w.alloc (.cells #[.slice A p.length c] 126)) wr) (fun i _ => p.length - (intOf i).toNat)
  case atStart => exact ⟨0, by omega, rfl, by rfl, Below.refl _ _⟩
  case round =>
    obtain ⟨k, hk, rfl, ht, hb⟩ := hrel
    have hw : Below w.heap.size w wr := bel_trans b_10 hb
    obtain ⟨hc, hf⟩ := bcell hb
    have HT := Lib.hid ht
    clear ht
    by_cases hlt : k < p.length
    · have HS := Lib.hid (patUpto_succ p hlt)
      have HN := Lib.hid (fun q => validPat_no p hlt q)
      obtain ⟨b, o, ds, rfl, hl, hcell, hrd⟩ := Ty.rd_at (Ty.rd_below hw h) hlt
      obtain ⟨rfl, hsl⟩ := hrd
      have e0 : wr.cell? ⟨b, o + k, none⟩ = some (vS p[k]) := by simpa [Ty.sz] using hcell 0 b_36
      clear hcell hl
      have HP := Lib.hid (show patPart p.length k p[k] = (validPart p[k] || decide (p[k] = [42]) || isVar p[k] || (decide (p[k] = [42, 42]) && decide (k + 1 = p.length))) from rfl)
      go_wp2_with fail
      refine (C_impl_ValidPart _ _ hsl).mono ?_
      rintro e w1 ⟨rfl, rfl⟩
      go_wp2_with fail
      all_goals first
        | exact ⟨⟨k + 1, by omega, by go_num, by rw [HS.out, HT.out, HP.out]; simp [*, part_42, var_42]; try omega, hb⟩, by simp [intOf]; omega⟩
        | (refine (C_impl_isVariable _ _ hsl).mono ?_
           rintro e w2 ⟨rfl, rfl⟩
           go_wp2
           all_goals (try simp only [Bool.not_eq_false', beq_iff_eq, Bool.not_eq_true', beq_eq_false_iff_ne, bne_iff_ne, bne_eq_false_iff_eq, ne_eq] at *)
           all_goals (try contradiction)
           all_goals first
             | exact ⟨⟨k + 1, by omega, by go_num, by rw [HS.out, HT.out, HP.out]; simp [*, part_42, var_42]; try omega, hb⟩, by simp [intOf]; omega⟩
             | exact ⟨⟨k + 1, by omega, by go_num, by rw [HS.out, HT.out, HP.out]; simp [*, part_42, var_42]; try omega, hb⟩, by simp [intOf]; omega⟩
             | (go_ret
                exact ⟨ret_bool (HN.out (by rw [HP.out]; simp [*, part_42, var_42]; try omega)).symm, hw⟩)
             | (go_ret
                exact ⟨ret_bool (HN.out (by rw [HP.out]; simp [*, part_42, var_42]; try omega)).symm, hw⟩))
    · have HE : Hid (validPat p = decide (p.length ≤ 6)) := by
        have e : k = p.length := by omega
        have := HT.out; rw [e] at this
        unfold patUpto at this; unfold Hid validPat; rw [this]; rfl
      go_wp2
      go_ret
      exact ⟨ret_bool (by rw [HE.out]; (rw [Bool.eq_iff_iff]; simp; try omega)), hw⟩
def eqs (s q : List UInt8) : Bool := decide (q = s)
theorem contains_any (p : List (List UInt8)) (s : List UInt8) : p.contains s = p.any (eqs s) := by
 rw [Bool.eq_iff_iff, List.contains_iff_mem, List.any_eq_true]
 exact ⟨fun h => ⟨s, h, by simp [eqs]⟩, fun ⟨q, h, e⟩ => by simp [eqs] at e; exact e ▸ h⟩
theorem any_hit (f : List UInt8 → Bool) (p : List (List UInt8)) {k : Nat} (h : k < p.length) (hq : f p[k] = true) : p.any f = true :=
 List.any_eq_true.2 ⟨_, List.getElem_mem h, hq⟩
set_option maxHeartbeats 1000000 in
theorem C_spec_l10Has (w : World) (cs : List Value) (p : List (List UInt8)) (s : List UInt8) (h : (Ty.sl .str).rd w cs p) (hs : s.length ≤ 9223372036854775807) :
  Calls Tryz.prog 160 #[.agg cs.toArray, vS s] w (RetB w (p.any (eqs s))) := by
 obtain ⟨A, c, rfl⟩ := Ty.rd_slv h
 obtain ⟨_, _, _, _, _, n0⟩ := Ty.rd_sl h
 go_enter Tryz.func160, Tryz.ntmps160
 go_wp2
 go_loopw [5] (fun i wr => ∃ k : Nat, k ≤ p.length ∧ i = .int .i64 k ∧ (p.take k).any (eqs s) = false ∧ Below (w.alloc (.cells #[.slice A p.length c] 126)).heap.size (w.alloc (.cells #[.slice A p.length c] 126)) wr) (fun i _ => p.length - (intOf i).toNat)
 case atStart => exact ⟨0, by omega, rfl, by first | rfl | simp, Below.refl _ _⟩
 case round =>
  obtain ⟨k, hk, rfl, ht, hb⟩ := hrel
  have hw : Below w.heap.size w wr := bel_trans b_10 hb
  obtain ⟨hc, hf⟩ := bcell hb
  have HT := Lib.hid ht
  clear ht
  by_cases hlt : k < p.length
  ·have HS := Lib.hid (any_take_succ (eqs s) p hlt)
   obtain ⟨b, o, ds, rfl, hl, hcell, hrd⟩ := Ty.rd_at (Ty.rd_below hw h) hlt
   obtain ⟨rfl, hsl⟩ := hrd
   have e0 : wr.cell? ⟨b, o + k, none⟩ = some (vS p[k]) := by simpa [Ty.sz] using hcell 0 b_36
   clear hcell hl
   by_cases hq : p[k] = s
   ·have HQ := Lib.hid (any_hit (eqs s) p hlt (by simp [eqs, hq]))
    have hq2 : (p[k] == s) = true := by simp [hq]
    go_wp2
    go_ret
    exact ⟨ret_bool HQ.out.symm, hw⟩
   ·have HQ : Hid (eqs s p[k] = false) := by show _ = _; simp [eqs, hq]
    have hq2 : (p[k] == s) = false := by simp [hq]
    go_wp2
    exact ⟨⟨k + 1, by omega, by go_num, by rw [HS.out, HT.out, HQ.out]; rfl, hb⟩, by simp [intOf]; omega⟩
  ·have HE : Hid (p.any (eqs s) = false) := by have := HT.out; rwa [List.take_of_length_le b_37] at this
   go_wp2
   go_ret
   exact ⟨ret_bool HE.out.symm, hw⟩
set_option maxHeartbeats 1000000 in
theorem C_Index_str (w : World) (v : Value) (p : List (List UInt8)) (s : List UInt8) (h : (Ty.sl .str).rd w [v] p) (hs : s.length ≤ 9223372036854775807) :
  Calls Tryz.prog 175 #[v, vS s] w (RetIP w (ixf (eqs s) p)) := by
 obtain ⟨A, c, rfl, _, _, n0⟩ := Ty.rd_sl h
 go_enter Tryz.func175, Tryz.ntmps175
 go_wp2
 go_loopw [8] (fun i wr => ∃ k : Nat, k ≤ p.length ∧ i = .int .i64 k ∧ (p.take k).any (eqs s) = false ∧ wr = w) (fun i _ => p.length - (intOf i).toNat)
 case atStart => exact ⟨0, by omega, rfl, by first | rfl | simp, rfl⟩
 case round =>
  obtain ⟨k, hk, rfl, ht, rfl⟩ := hrel
  have HT := Lib.hid ht
  clear ht
  by_cases hlt : k < p.length
  ·have HS := Lib.hid (any_take_succ (eqs s) p hlt)
   obtain ⟨b, o, ds, rfl, hl, hcell, hrd⟩ := Ty.rd_at h hlt
   obtain ⟨rfl, hsl⟩ := hrd
   have e0 := hcell 0 b_36
   simp [Ty.sz] at e0
   clear hcell hl
   by_cases hq : p[k] = s
   ·have HQ := Lib.hid (ixf_hit (eqs s) p hlt HT.out (by simp [eqs, hq]))
    have hq2 : (s == p[k]) = true := by simp [hq]
    go_wp2
    go_ret
    exact ⟨ret_int HQ.out.symm, rfl⟩
   ·have HQ : Hid (eqs s p[k] = false) := by show _ = _; simp [eqs, hq]
    have hq2 : (s == p[k]) = false := by simp [Ne.symm hq]
    go_wp2
    exact ⟨⟨k + 1, by omega, by go_num, by rw [HS.out, HT.out, HQ.out]; rfl, by first | rfl | trivial⟩, by simp [intOf]; omega⟩
  ·have HE : Hid (p.any (eqs s) = false) := by have := HT.out; rwa [List.take_of_length_le b_37] at this
   go_wp2
   go_ret
   exact ⟨ret_int (ixf_miss (eqs s) p HE.out).symm, rfl⟩
theorem ixf_sign (f : List UInt8 → Bool) (p : List (List UInt8)) : decide (0 ≤ ixf f p) = p.any f := by
 rcases find_ixf f p with ⟨hi, hf⟩ | ⟨k, hk, hi, hf⟩
 ·rw [hi]
  cases h : p.any f
  ·rfl
  ·obtain ⟨q, hq, he⟩ := List.any_eq_true.1 h
   exact absurd he (by have := List.find?_eq_none.1 hf q hq; simpa using this)
 ·rw [hi]
  have h1 := List.find?_some hf
  rw [List.any_eq_true.2 ⟨_, List.mem_of_find?_eq_some hf, h1⟩]
  simp
set_option maxHeartbeats 1000000 in
theorem C_Contains_str (w : World) (v : Value) (p : List (List UInt8)) (s : List UInt8) (h : (Ty.sl .str).rd w [v] p) (hs : s.length ≤ 9223372036854775807) :
  Calls Tryz.prog 157 #[v, vS s] w (RetBP w (p.any (eqs s))) := by
 have HI := Lib.hid (ixf_sign (eqs s) p)
 go_enter Tryz.func157, Tryz.ntmps157
 go_wp2_with fail
 refine (C_Index_str _ _ p s h hs).mono ?_
 rintro e w1 ⟨rfl, rfl⟩
 go_wp2
 go_ret
 exact ⟨ret_bool HI.out, rfl⟩
def vrP (a : List (List UInt8)) (s : List UInt8) : Bool := !isVar s || a.any (eqs s)
theorem validRule_eq (x : tRule.D) : validRule x = (validPat x.1 && validPat x.2 && List.all x.2 (vrP x.1)) := by
 unfold validRule
 congr 2
 funext s; unfold vrP; rw [contains_any]
set_option maxHeartbeats 2000000 in
theorem C_impl_ValidRule (w : World) (cs : List Value) (x : tRule.D) (h : tRule.rd w cs x) (s0 : Ty.bulk tRule x ≤ 1048576) :
  Calls Tryz.prog 122 #[.agg cs.toArray] w (RetB w (validRule x)) := by
 obtain ⟨A0, c0, A1, c1, rfl, g0, g1⟩ := rd_Rule h
 obtain ⟨_, _, _, _, _, n1⟩ := Ty.rd_sl g1
 have HF := Lib.hid (validRule_eq x)
 go_enter Tryz.func122, Tryz.ntmps122
 go_wp2_with fail
 refine (C_impl_ValidPattern _ _ _ (Ty.rd_below b_10 g0)).mono ?_
 rintro e w1 ⟨rfl, hb1⟩
 obtain ⟨hc1, hf1⟩ := bcell hb1
 have z1 : w.heap.size < w1.heap.size := by have := hb1.size; simp only [World.size_alloc] at this; omega
 cases q0 : validPat x.1
 ·rw [q0] at HF
  go_wp2
  go_ret
  exact ⟨ret_bool (by rw [HF.out]; rfl), bel_trans b_10 hb1⟩
 rw [q0] at HF
 go_wp2_with fail
 have hw1 : Below w.heap.size w w1 := bel_trans b_10 hb1
 refine (C_impl_ValidPattern _ _ _ (Ty.rd_below hw1 g1)).mono ?_
 rintro e w2 ⟨rfl, hb2⟩
 have hv2 : Below (w.alloc (.cells #[.slice A0 (List.length x.1) c0, .slice A1 (List.length x.2) c1] 128)).heap.size (w.alloc (.cells #[.slice A0 (List.length x.1) c0, .slice A1 (List.length x.2) c1] 128)) w2 := bel_trans hb1 hb2
 clear hb2 hc1 hf1 hb1 z1 hw1
 obtain ⟨hc2, hf2⟩ := bcell hv2
 have z2 : w.heap.size < w2.heap.size := by have := hv2.size; simp only [World.size_alloc] at this; omega
 cases q1 : validPat x.2
 ·rw [q1] at HF
  go_wp2
  go_ret
  exact ⟨ret_bool (by rw [HF.out]; rfl), bel_trans b_10 hv2⟩
 rw [q1] at HF
 go_wp2
 go_loopw [19] (fun i wr => ∃ k : Nat, k ≤ x.2.length ∧ i = .int .i64 k ∧ (List.take k x.2).all (vrP x.1) = true ∧ Below (w.alloc (.cells #[.slice A0 (List.length x.1) c0, .slice A1 (List.length x.2) c1] 128)).heap.size (w.alloc (.cells #[.slice A0 (List.length x.1) c0, .slice A1 (List.length x.2) c1] 128)) wr) (fun i _ => x.2.length - (intOf i).toNat)
 case atStart => exact ⟨0, by omega, rfl, by first | rfl | simp, hv2⟩
 case round =>
  obtain ⟨k, hk, rfl, ht, hb⟩ := hrel
  have hw : Below w.heap.size w wr := bel_trans b_10 hb
  obtain ⟨hc, hf⟩ := bcell hb
  have z3 : w.heap.size < wr.heap.size := by have := hb.size; simp only [World.size_alloc] at this; omega
  have HT := Lib.hid ht
  clear ht
  by_cases hlt : k < x.2.length
  ·have HS := Lib.hid (all_take_succ (vrP x.1) x.2 hlt)
   have HN := Lib.hid (fun q => all_false_of (vrP x.1) x.2 hlt q)
   obtain ⟨b, o, ds, rfl, hl, hcell, hrd⟩ := Ty.rd_at (Ty.rd_below hw g1) hlt
   obtain ⟨rfl, hsl⟩ := hrd
   have e0 : wr.cell? ⟨b, o + k, none⟩ = some (vS x.2[k]) := by simpa [Ty.sz] using hcell 0 b_36
   have HP := Lib.hid (show vrP x.1 x.2[k] = (!isVar x.2[k] || x.1.any (eqs x.2[k])) from rfl)
   clear hcell hl
   go_wp2_with fail
   refine (C_impl_isVariable _ _ hsl).mono ?_
   rintro e w3 ⟨rfl, rfl⟩
   cases q3 : isVar x.2[k]
   ·rw [q3] at HP
    go_wp2
    exact ⟨⟨k + 1, by omega, by go_num, by rw [HS.out, HT.out, HP.out]; rfl, hb⟩, by simp [intOf]; omega⟩
   ·rw [q3] at HP
    go_wp2_with fail
    refine (C_Contains_str _ _ x.1 _ (Ty.rd_below hw g0) hsl).mono ?_
    rintro e w4 ⟨rfl, rfl⟩
    cases q4 : x.1.any (eqs x.2[k])
    ·rw [q4] at HP
     go_wp2
     go_ret
     exact ⟨ret_bool (by rw [HF.out, HN.out HP.out]; rfl), hw⟩
    ·rw [q4] at HP
     go_wp2
     exact ⟨⟨k + 1, by omega, by go_num, by rw [HS.out, HT.out, HP.out]; rfl, hb⟩, by simp [intOf]; omega⟩
  ·have HE : Hid (List.all x.2 (vrP x.1) = true) := by have := HT.out; rwa [List.take_of_length_le b_37] at this
   go_wp2
   go_ret
   exact ⟨ret_bool (by rw [HF.out, HE.out]; rfl), hw⟩
abbrev tBinding : Ty := .pr .str .str
theorem rd_Binding {w : World} {cs : List Value} {x : tBinding.D} (h : tBinding.rd w cs x) : cs = [vS x.1, vS x.2] ∧ x.1.length ≤ 9223372036854775807 ∧ x.2.length ≤ 9223372036854775807 := by
 obtain ⟨c1, c2, rfl, ⟨rfl, h1⟩, ⟨rfl, h2⟩⟩ := h
 exact ⟨rfl, h1, h2⟩
theorem rd_Binding_mk {w : World} {x : tBinding.D} (h1 : x.1.length ≤ 9223372036854775807) (h2 : x.2.length ≤ 9223372036854775807) : tBinding.rd w [vS x.1, vS x.2] x := ⟨[_], [_], rfl, ⟨rfl, h1⟩, ⟨rfl, h2⟩⟩
set_option maxHeartbeats 1000000 in
theorem C_IndexFunc_Name (w : World) (v : Value) (x : List (Ty.D (.sl .str))) (p : Ty.D (.sl .str) → Bool) (g : Nat) (lb : Array Value) (eg : ∀ args w, (callFunc g args).run Tryz.prog w = .ok (.enter g args) w)
  (h : (Ty.sl (.sl .str)).rd w [v] x) (hp : ∀ (W : World) (ds : List Value) (d : Ty.D (.sl .str)), d ∈ x → Ty.rd W (.sl .str) ds d → Below w.heap.size w W → Calls Tryz.prog g (#[.agg ds.toArray] ++ lb) W (RetB W (p d))) :
  Calls Tryz.prog 124 #[v, .func (.func g) #[] lb] w (RetI w (ixf p x)) := by
 obtain ⟨A, c, rfl, hc, hm, hn⟩ := Ty.rd_sl h
 have HP := Lib.hid hp
 clear hp
 go_enter Tryz.func124, Tryz.ntmps124
 go_wp2
 go_loopw [8] (fun i wr => ∃ k : Nat, k ≤ x.length ∧ i = .int .i64 k ∧ (x.take k).any p = false ∧ Below w.heap.size w wr) (fun i _ => x.length - (intOf i).toNat)
 case atStart => exact ⟨0, by omega, by first | rfl | simp, by first | rfl | simp, Below.refl _ _⟩
 case round =>
  obtain ⟨k, hk, rfl, ht, hb⟩ := hrel
  have HT := Lib.hid ht
  clear ht
  by_cases hlt : k < x.length
  ·have HS := Lib.hid (any_take_succ p x hlt)
   obtain ⟨b, o, ds, rfl, hl, hcell, hrd⟩ := Ty.rd_at (Ty.rd_below hb h) hlt
   have hcall := HP.out wr ds x[k] (List.getElem_mem hlt) hrd hb
   obtain ⟨Aa0, ca0, rfl⟩ := Ty.rd_slv hrd
   have e0 : wr.cell? ⟨b, o + k, none⟩ = some (.slice Aa0 (List.length x[k]) ca0) := by simpa [Ty.sz] using hcell 0 b_36
   clear hcell hl
   cases hq : p x[k]
   ·have HQ := Lib.hid hq
    rw [hq] at hcall
    go_wp2_with (go_at_fn g; refine hcall.mono ?_; rintro e w' ⟨rfl, hb'⟩)
    go_roundw
    case rel => exact ⟨k + 1, by omega, by go_num, by rw [HS.out, HT.out, HQ.out]; rfl, bel_trans hb hb'⟩
    case measure => simp [intOf]; omega
   ·have HQ := Lib.hid hq
    rw [hq] at hcall
    go_wp2_with (go_at_fn g; refine hcall.mono ?_; rintro e w' ⟨rfl, hb'⟩)
    go_ret
    exact ⟨ret_int (ixf_hit p x hlt HT.out HQ.out).symm, bel_trans hb hb'⟩
  ·have HE : Hid (x.any p = false) := by have := HT.out; rwa [List.take_of_length_le b_37] at this
   go_wp2
   go_ret
   exact ⟨ret_int (ixf_miss p x HE.out).symm, hb⟩
set_option maxHeartbeats 1000000 in
theorem C_ContainsFunc_Name (w : World) (v : Value) (x : List (Ty.D (.sl .str))) (p : Ty.D (.sl .str) → Bool) (g : Nat) (lb : Array Value) (eg : ∀ args w, (callFunc g args).run Tryz.prog w = .ok (.enter g args) w)
  (h : (Ty.sl (.sl .str)).rd w [v] x) (hp : ∀ (W : World) (ds : List Value) (d : Ty.D (.sl .str)), d ∈ x → Ty.rd W (.sl .str) ds d → Below w.heap.size w W → Calls Tryz.prog g (#[.agg ds.toArray] ++ lb) W (RetB W (p d))) :
  Calls Tryz.prog 81 #[v, .func (.func g) #[] lb] w (RetB w (x.any p)) := by
 have hcall := C_IndexFunc_Name w v x p g lb eg h hp
 go_enter Tryz.func81, Tryz.ntmps81
 go_wp2_with fail
 refine hcall.mono ?_
 rintro e w1 ⟨rfl, hb⟩
 go_wp2
 go_ret
 exact ⟨ret_bool (ixf_ge p x), hb⟩
set_option maxHeartbeats 1000000 in
theorem C_IndexFunc_Rule (w : World) (v : Value) (x : List (Ty.D tRule)) (p : Ty.D tRule → Bool) (g : Nat) (lb : Array Value) (eg : ∀ args w, (callFunc g args).run Tryz.prog w = .ok (.enter g args) w)
  (h : (Ty.sl tRule).rd w [v] x) (hp : ∀ (W : World) (ds : List Value) (d : Ty.D tRule), d ∈ x → Ty.rd W tRule ds d → Below w.heap.size w W → Calls Tryz.prog g (#[.agg ds.toArray] ++ lb) W (RetB W (p d))) :
  Calls Tryz.prog 128 #[v, .func (.func g) #[] lb] w (RetI w (ixf p x)) := by
 obtain ⟨A, c, rfl, hc, hm, hn⟩ := Ty.rd_sl h
 have HP := Lib.hid hp
 clear hp
 go_enter Tryz.func128, Tryz.ntmps128
 go_wp2
 go_loopw [8] (fun i wr => ∃ k : Nat, k ≤ x.length ∧ i = .int .i64 k ∧ (x.take k).any p = false ∧ Below w.heap.size w wr) (fun i _ => x.length - (intOf i).toNat)
 case atStart => exact ⟨0, by omega, by first | rfl | simp, by first | rfl | simp, Below.refl _ _⟩
 case round =>
  obtain ⟨k, hk, rfl, ht, hb⟩ := hrel
  have HT := Lib.hid ht
  clear ht
  by_cases hlt : k < x.length
  ·have HS := Lib.hid (any_take_succ p x hlt)
   obtain ⟨b, o, ds, rfl, hl, hcell, hrd⟩ := Ty.rd_at (Ty.rd_below hb h) hlt
   have hcall := HP.out wr ds x[k] (List.getElem_mem hlt) hrd hb
   obtain ⟨Aa0, ca0, Aa1, ca1, rfl, sag0, sag1⟩ := rd_Rule hrd
   have e0 : wr.cell? ⟨b, o + k * 2, none⟩ = some (.slice Aa0 (List.length x[k].1) ca0) := by simpa [Ty.sz] using hcell 0 b_36
   have e1 : wr.cell? ⟨b, o + k * 2 + 1, none⟩ = some (.slice Aa1 (List.length x[k].2) ca1) := by simpa [Ty.sz] using hcell 1 b_36
   clear hcell hl
   cases hq : p x[k]
   ·have HQ := Lib.hid hq
    rw [hq] at hcall
    go_wp2_with (go_at_fn g; refine hcall.mono ?_; rintro e w' ⟨rfl, hb'⟩)
    go_roundw
    case rel => exact ⟨k + 1, by omega, by go_num, by rw [HS.out, HT.out, HQ.out]; rfl, bel_trans hb hb'⟩
    case measure => simp [intOf]; omega
   ·have HQ := Lib.hid hq
    rw [hq] at hcall
    go_wp2_with (go_at_fn g; refine hcall.mono ?_; rintro e w' ⟨rfl, hb'⟩)
    go_ret
    exact ⟨ret_int (ixf_hit p x hlt HT.out HQ.out).symm, bel_trans hb hb'⟩
  ·have HE : Hid (x.any p = false) := by have := HT.out; rwa [List.take_of_length_le b_37] at this
   go_wp2
   go_ret
   exact ⟨ret_int (ixf_miss p x HE.out).symm, hb⟩
set_option maxHeartbeats 1000000 in
theorem C_ContainsFunc_Rule (w : World) (v : Value) (x : List (Ty.D tRule)) (p : Ty.D tRule → Bool) (g : Nat) (lb : Array Value) (eg : ∀ args w, (callFunc g args).run Tryz.prog w = .ok (.enter g args) w)
  (h : (Ty.sl tRule).rd w [v] x) (hp : ∀ (W : World) (ds : List Value) (d : Ty.D tRule), d ∈ x → Ty.rd W tRule ds d → Below w.heap.size w W → Calls Tryz.prog g (#[.agg ds.toArray] ++ lb) W (RetB W (p d))) :
  Calls Tryz.prog 120 #[v, .func (.func g) #[] lb] w (RetB w (x.any p)) := by
 have hcall := C_IndexFunc_Rule w v x p g lb eg h hp
 go_enter Tryz.func120, Tryz.ntmps120
 go_wp2_with fail
 refine hcall.mono ?_
 rintro e w1 ⟨rfl, hb⟩
 go_wp2
 go_ret
 exact ⟨ret_bool (ixf_ge p x), hb⟩
set_option maxHeartbeats 1000000 in
theorem C_IndexFunc_Data (w : World) (v : Value) (x : List (Ty.D tData)) (p : Ty.D tData → Bool) (g : Nat) (lb : Array Value) (eg : ∀ args w, (callFunc g args).run Tryz.prog w = .ok (.enter g args) w)
  (h : (Ty.sl tData).rd w [v] x) (hp : ∀ (W : World) (ds : List Value) (d : Ty.D tData), d ∈ x → Ty.rd W tData ds d → Below w.heap.size w W → Calls Tryz.prog g (#[.agg ds.toArray] ++ lb) W (RetB W (p d))) :
  Calls Tryz.prog 66 #[v, .func (.func g) #[] lb] w (RetI w (ixf p x)) := by
 obtain ⟨A, c, rfl, hc, hm, hn⟩ := Ty.rd_sl h
 have HP := Lib.hid hp
 clear hp
 go_enter Tryz.func66, Tryz.ntmps66
 go_wp2
 go_loopw [8] (fun i wr => ∃ k : Nat, k ≤ x.length ∧ i = .int .i64 k ∧ (x.take k).any p = false ∧ Below w.heap.size w wr) (fun i _ => x.length - (intOf i).toNat)
 case atStart => exact ⟨0, by omega, by first | rfl | simp, by first | rfl | simp, Below.refl _ _⟩
 case round =>
  obtain ⟨k, hk, rfl, ht, hb⟩ := hrel
  have HT := Lib.hid ht
  clear ht
  by_cases hlt : k < x.length
  ·have HS := Lib.hid (any_take_succ p x hlt)
   obtain ⟨b, o, ds, rfl, hl, hcell, hrd⟩ := Ty.rd_at (Ty.rd_below hb h) hlt
   have hcall := HP.out wr ds x[k] (List.getElem_mem hlt) hrd hb
   obtain ⟨Aa0, ca0, Aa1, ca1, Aa2, ca2, rfl, sag0, sag1, sag2, sag3, sag4⟩ := rd_Data hrd
   have e0 : wr.cell? ⟨b, o + k * 5, none⟩ = some (.slice Aa0 (List.length x[k].1) ca0) := by simpa [Ty.sz] using hcell 0 b_36
   have e1 : wr.cell? ⟨b, o + k * 5 + 1, none⟩ = some (.slice Aa1 (List.length x[k].2.1) ca1) := by simpa [Ty.sz] using hcell 1 b_36
   have e2 : wr.cell? ⟨b, o + k * 5 + 2, none⟩ = some (.slice Aa2 (List.length x[k].2.2.1) ca2) := by simpa [Ty.sz] using hcell 2 b_36
   have e3 : wr.cell? ⟨b, o + k * 5 + 3, none⟩ = some (.int .i64 x[k].2.2.2.1) := by simpa [Ty.sz] using hcell 3 b_36
   have e4 : wr.cell? ⟨b, o + k * 5 + 4, none⟩ = some (.int .i64 x[k].2.2.2.2) := by simpa [Ty.sz] using hcell 4 b_36
   clear hcell hl
   cases hq : p x[k]
   ·have HQ := Lib.hid hq
    rw [hq] at hcall
    go_wp2_with (go_at_fn g; refine hcall.mono ?_; rintro e w' ⟨rfl, hb'⟩)
    go_roundw
    case rel => exact ⟨k + 1, by omega, by go_num, by rw [HS.out, HT.out, HQ.out]; rfl, bel_trans hb hb'⟩
    case measure => simp [intOf]; omega
   ·have HQ := Lib.hid hq
    rw [hq] at hcall
    go_wp2_with (go_at_fn g; refine hcall.mono ?_; rintro e w' ⟨rfl, hb'⟩)
    go_ret
    exact ⟨ret_int (ixf_hit p x hlt HT.out HQ.out).symm, bel_trans hb hb'⟩
  ·have HE : Hid (x.any p = false) := by have := HT.out; rwa [List.take_of_length_le b_37] at this
   go_wp2
   go_ret
   exact ⟨ret_int (ixf_miss p x HE.out).symm, hb⟩
set_option maxHeartbeats 1000000 in
theorem C_ContainsFunc_Data (w : World) (v : Value) (x : List (Ty.D tData)) (p : Ty.D tData → Bool) (g : Nat) (lb : Array Value) (eg : ∀ args w, (callFunc g args).run Tryz.prog w = .ok (.enter g args) w)
  (h : (Ty.sl tData).rd w [v] x) (hp : ∀ (W : World) (ds : List Value) (d : Ty.D tData), d ∈ x → Ty.rd W tData ds d → Below w.heap.size w W → Calls Tryz.prog g (#[.agg ds.toArray] ++ lb) W (RetB W (p d))) :
  Calls Tryz.prog 77 #[v, .func (.func g) #[] lb] w (RetB w (x.any p)) := by
 have hcall := C_IndexFunc_Data w v x p g lb eg h hp
 go_enter Tryz.func77, Tryz.ntmps77
 go_wp2_with fail
 refine hcall.mono ?_
 rintro e w1 ⟨rfl, hb⟩
 go_wp2
 go_ret
 exact ⟨ret_bool (ixf_ge p x), hb⟩
set_option maxHeartbeats 1000000 in
theorem C_IndexFunc_Key (w : World) (v : Value) (x : List (Ty.D tKey)) (p : Ty.D tKey → Bool) (g : Nat) (lb : Array Value) (eg : ∀ args w, (callFunc g args).run Tryz.prog w = .ok (.enter g args) w)
  (h : (Ty.sl tKey).rd w [v] x) (hp : ∀ (W : World) (ds : List Value) (d : Ty.D tKey), d ∈ x → Ty.rd W tKey ds d → Below w.heap.size w W → Calls Tryz.prog g (#[.agg ds.toArray] ++ lb) W (RetB W (p d))) :
  Calls Tryz.prog 119 #[v, .func (.func g) #[] lb] w (RetI w (ixf p x)) := by
 obtain ⟨A, c, rfl, hc, hm, hn⟩ := Ty.rd_sl h
 have HP := Lib.hid hp
 clear hp
 go_enter Tryz.func119, Tryz.ntmps119
 go_wp2
 go_loopw [8] (fun i wr => ∃ k : Nat, k ≤ x.length ∧ i = .int .i64 k ∧ (x.take k).any p = false ∧ Below w.heap.size w wr) (fun i _ => x.length - (intOf i).toNat)
 case atStart => exact ⟨0, by omega, by first | rfl | simp, by first | rfl | simp, Below.refl _ _⟩
 case round =>
  obtain ⟨k, hk, rfl, ht, hb⟩ := hrel
  have HT := Lib.hid ht
  clear ht
  by_cases hlt : k < x.length
  ·have HS := Lib.hid (any_take_succ p x hlt)
   obtain ⟨b, o, ds, rfl, hl, hcell, hrd⟩ := Ty.rd_at (Ty.rd_below hb h) hlt
   have hcall := HP.out wr ds x[k] (List.getElem_mem hlt) hrd hb
   obtain ⟨Aa0, ca0, rfl, sag0, sag1⟩ := rd_Key hrd
   have e0 : wr.cell? ⟨b, o + k * 2, none⟩ = some (.slice Aa0 (List.length x[k].1) ca0) := by simpa [Ty.sz] using hcell 0 b_36
   have e1 : wr.cell? ⟨b, o + k * 2 + 1, none⟩ = some (.int .i64 x[k].2) := by simpa [Ty.sz] using hcell 1 b_36
   clear hcell hl
   cases hq : p x[k]
   ·have HQ := Lib.hid hq
    rw [hq] at hcall
    go_wp2_with (go_at_fn g; refine hcall.mono ?_; rintro e w' ⟨rfl, hb'⟩)
    go_roundw
    case rel => exact ⟨k + 1, by omega, by go_num, by rw [HS.out, HT.out, HQ.out]; rfl, bel_trans hb hb'⟩
    case measure => simp [intOf]; omega
   ·have HQ := Lib.hid hq
    rw [hq] at hcall
    go_wp2_with (go_at_fn g; refine hcall.mono ?_; rintro e w' ⟨rfl, hb'⟩)
    go_ret
    exact ⟨ret_int (ixf_hit p x hlt HT.out HQ.out).symm, bel_trans hb hb'⟩
  ·have HE : Hid (x.any p = false) := by have := HT.out; rwa [List.take_of_length_le b_37] at this
   go_wp2
   go_ret
   exact ⟨ret_int (ixf_miss p x HE.out).symm, hb⟩
set_option maxHeartbeats 1000000 in
theorem C_ContainsFunc_Key (w : World) (v : Value) (x : List (Ty.D tKey)) (p : Ty.D tKey → Bool) (g : Nat) (lb : Array Value) (eg : ∀ args w, (callFunc g args).run Tryz.prog w = .ok (.enter g args) w)
  (h : (Ty.sl tKey).rd w [v] x) (hp : ∀ (W : World) (ds : List Value) (d : Ty.D tKey), d ∈ x → Ty.rd W tKey ds d → Below w.heap.size w W → Calls Tryz.prog g (#[.agg ds.toArray] ++ lb) W (RetB W (p d))) :
  Calls Tryz.prog 74 #[v, .func (.func g) #[] lb] w (RetB w (x.any p)) := by
 have hcall := C_IndexFunc_Key w v x p g lb eg h hp
 go_enter Tryz.func74, Tryz.ntmps74
 go_wp2_with fail
 refine hcall.mono ?_
 rintro e w1 ⟨rfl, hb⟩
 go_wp2
 go_ret
 exact ⟨ret_bool (ixf_ge p x), hb⟩
set_option maxHeartbeats 1000000 in
theorem C_IndexFunc_Binding (w : World) (v : Value) (x : List (Ty.D tBinding)) (p : Ty.D tBinding → Bool) (g : Nat) (lb : Array Value) (eg : ∀ args w, (callFunc g args).run Tryz.prog w = .ok (.enter g args) w)
  (h : (Ty.sl tBinding).rd w [v] x) (hp : ∀ (W : World) (ds : List Value) (d : Ty.D tBinding), d ∈ x → Ty.rd W tBinding ds d → Below w.heap.size w W → Calls Tryz.prog g (#[.agg ds.toArray] ++ lb) W (RetB W (p d))) :
  Calls Tryz.prog 177 #[v, .func (.func g) #[] lb] w (RetI w (ixf p x)) := by
 obtain ⟨A, c, rfl, hc, hm, hn⟩ := Ty.rd_sl h
 have HP := Lib.hid hp
 clear hp
 go_enter Tryz.func177, Tryz.ntmps177
 go_wp2
 go_loopw [8] (fun i wr => ∃ k : Nat, k ≤ x.length ∧ i = .int .i64 k ∧ (x.take k).any p = false ∧ Below w.heap.size w wr) (fun i _ => x.length - (intOf i).toNat)
 case atStart => exact ⟨0, by omega, by first | rfl | simp, by first | rfl | simp, Below.refl _ _⟩
 case round =>
  obtain ⟨k, hk, rfl, ht, hb⟩ := hrel
  have HT := Lib.hid ht
  clear ht
  by_cases hlt : k < x.length
  ·have HS := Lib.hid (any_take_succ p x hlt)
   obtain ⟨b, o, ds, rfl, hl, hcell, hrd⟩ := Ty.rd_at (Ty.rd_below hb h) hlt
   have hcall := HP.out wr ds x[k] (List.getElem_mem hlt) hrd hb
   obtain ⟨rfl, sag0, sag1⟩ := rd_Binding hrd
   have e0 : wr.cell? ⟨b, o + k * 2, none⟩ = some (vS x[k].1) := by simpa [Ty.sz] using hcell 0 b_36
   have e1 : wr.cell? ⟨b, o + k * 2 + 1, none⟩ = some (vS x[k].2) := by simpa [Ty.sz] using hcell 1 b_36
   clear hcell hl
   cases hq : p x[k]
   ·have HQ := Lib.hid hq
    rw [hq] at hcall
    go_wp2_with (go_at_fn g; refine hcall.mono ?_; rintro e w' ⟨rfl, hb'⟩)
    go_roundw
    case rel => exact ⟨k + 1, by omega, by go_num, by rw [HS.out, HT.out, HQ.out]; rfl, bel_trans hb hb'⟩
    case measure => simp [intOf]; omega
   ·have HQ := Lib.hid hq
    rw [hq] at hcall
    go_wp2_with (go_at_fn g; refine hcall.mono ?_; rintro e w' ⟨rfl, hb'⟩)
    go_ret
    exact ⟨ret_int (ixf_hit p x hlt HT.out HQ.out).symm, bel_trans hb hb'⟩
  ·have HE : Hid (x.any p = false) := by have := HT.out; rwa [List.take_of_length_le b_37] at this
   go_wp2
   go_ret
   exact ⟨ret_int (ixf_miss p x HE.out).symm, hb⟩
theorem hmf_ {P : Program} : ∀ (fn : Fn) (first cap : Array Value) (w : World), (Instr.makeFunc fn first cap).run P w = .ok (.func fn first cap) w := fun _ _ _ _ => rfl
end Go.Proofs.YtldgbnlcnlfmeaaGreat
