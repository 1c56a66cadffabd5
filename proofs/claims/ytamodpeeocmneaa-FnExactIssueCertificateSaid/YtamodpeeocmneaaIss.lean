/- Certificates are issued. Printed by gen25.py. -/
import Derived.Test.YtamodpeeocmneaaSwk
namespace Go.Proofs.Ytamodpeeocmneaa
open Go.RowKit
set_option linter.unusedVariables false
set_option linter.unusedSimpArgs false

def f0_IssueCertificate (l : List (Ty.D tKey)) (n by_ : List (List UInt8)) (till : Int) : tData.D := f0_SignWithKey l by_ n (f_KeyDigest l n) till
def f1_IssueCertificate (l : List (Ty.D tKey)) (n by_ : List (List UInt8)) (till : Int) : Bool := f1_SignWithKey l by_ n (f_KeyDigest l n) till
theorem kdg_bulk (l : List (Ty.D tKey)) (n : List (List UInt8)) : Ty.bulk (.sl .byte) (f_KeyDigest l n) ≤ 1048576 := by
  rw [Ty.bulk_flat (fun _ => rfl)]
  unfold f_KeyDigest
  split
  · simp
  · have := appendVarint_len [] (digest [f_SecretOf l n])
    simp only [List.length_nil] at this
    exact Nat.le_trans this (by decide)
theorem N_IssueCertificate {l : List (Ty.D tKey)} {n by_ : List (List UInt8)} {till : Int} (s0 : Ty.bulk (.sl tKey) l ≤ 1048576) (s1 : Ty.bulk (.sl .str) n ≤ 1048576) (s2 : Ty.bulk (.sl .str) by_ ≤ 1048576) : Ty.cntv tData (f0_IssueCertificate l n by_ till) ≤ 100000000000 :=
  N_SignWithKey s0 s2 s1 (kdg_bulk l n)
set_option maxRecDepth 100000 in
set_option maxHeartbeats 1000000 in
theorem C_impl_IssueCertificate (w : World) (v0 : Value) (l : List (Ty.D tKey)) (cs1 : List Value) (n : List (List UInt8)) (cs2 : List Value) (by_ : List (List UInt8)) (till : Int) (h0 : (Ty.sl tKey).rd w [v0] l) (h1 : (Ty.sl .str).rd w cs1 n) (h2 : (Ty.sl .str).rd w cs2 by_) (s0 : Ty.bulk (.sl tKey) l ≤ 1048576) (s1 : Ty.bulk (.sl .str) n ≤ 1048576) (s2 : Ty.bulk (.sl .str) by_ ≤ 1048576) (i3 : -9223372036854775808 ≤ till ∧ till ≤ 9223372036854775807) :
    Calls Try.prog 43 #[v0, .agg cs1.toArray, .agg cs2.toArray, .int .i64 till] w (RetAgg2 w tData (f0_IssueCertificate l n by_ till) (.bool (f1_IssueCertificate l n by_ till))) := by
  obtain ⟨An, cn, rfl⟩ := Ty.rd_slv h1
  obtain ⟨Ak, ck, rfl⟩ := Ty.rd_slv h2
  have hkb := kdg_bulk l n
  have hF0 : f0_IssueCertificate l n by_ till = f0_SignWithKey l by_ n (f_KeyDigest l n) till := rfl
  have hF1 : f1_IssueCertificate l n by_ till = f1_SignWithKey l by_ n (f_KeyDigest l n) till := rfl
  generalize f0_IssueCertificate l n by_ till = F0 at hF0 ⊢
  generalize f1_IssueCertificate l n by_ till = F1 at hF1 ⊢
  have HF0 := Lib.hid hF0
  have HF1 := Lib.hid hF1
  clear hF0 hF1
  have hBN : Blk (((w.alloc (.cells #[.slice An n.length cn] 29)).alloc (.cells #[.slice Ak by_.length ck] 29)).alloc (.cells #[.slice none 0 0, .slice none 0 0, .slice none 0 0, .int .i64 0, .int .i64 0] 31)) (w.heap.size) 29 #[.slice An n.length cn] := ((Blk.new w 29 #[.slice An n.length cn]).alloc _).alloc _
  have hBK : Blk (((w.alloc (.cells #[.slice An n.length cn] 29)).alloc (.cells #[.slice Ak by_.length ck] 29)).alloc (.cells #[.slice none 0 0, .slice none 0 0, .slice none 0 0, .int .i64 0, .int .i64 0] 31)) (w.heap.size + 1) 29 #[.slice Ak by_.length ck] := (show Blk ((w.alloc (.cells #[.slice An n.length cn] 29)).alloc (.cells #[.slice Ak by_.length ck] 29)) (w.heap.size + 1) 29 #[.slice Ak by_.length ck] from by have := Blk.new (w.alloc (.cells #[.slice An n.length cn] 29)) 29 #[.slice Ak by_.length ck]; rwa [World.size_alloc] at this).alloc _
  have hBR : Blk (((w.alloc (.cells #[.slice An n.length cn] 29)).alloc (.cells #[.slice Ak by_.length ck] 29)).alloc (.cells #[.slice none 0 0, .slice none 0 0, .slice none 0 0, .int .i64 0, .int .i64 0] 31)) (w.heap.size + 1 + 1) 31 #[.slice none 0 0, .slice none 0 0, .slice none 0 0, .int .i64 0, .int .i64 0] := by have := Blk.new ((w.alloc (.cells #[.slice An n.length cn] 29)).alloc (.cells #[.slice Ak by_.length ck] 29)) 31 #[.slice none 0 0, .slice none 0 0, .slice none 0 0, .int .i64 0, .int .i64 0]; rwa [World.size_alloc, World.size_alloc] at this
  have hvb : Below w.heap.size w (((w.alloc (.cells #[.slice An n.length cn] 29)).alloc (.cells #[.slice Ak by_.length ck] 29)).alloc (.cells #[.slice none 0 0, .slice none 0 0, .slice none 0 0, .int .i64 0, .int .i64 0] 31)) := (by repeat' (first | (with_reducible exact Below.refl _ _) | (with_reducible assumption) | (with_reducible refine bel_set ?_ (by (try dsimp only); omega) _) | (with_reducible refine bel_alloc ?_ _) | (with_reducible refine bel_drewN ?_ _) | (with_reducible refine bel_drew ?_)))
  have zb : w.heap.size + 1 + 1 < (((w.alloc (.cells #[.slice An n.length cn] 29)).alloc (.cells #[.slice Ak by_.length ck] 29)).alloc (.cells #[.slice none 0 0, .slice none 0 0, .slice none 0 0, .int .i64 0, .int .i64 0] 31)).heap.size := by simp only [World.size_alloc]; omega
  go_enter Try.func43, Try.ntmps43
  go_wp2_with fail
  generalize (((w.alloc (.cells #[.slice An n.length cn] 29)).alloc (.cells #[.slice Ak by_.length ck] 29)).alloc (.cells #[.slice none 0 0, .slice none 0 0, .slice none 0 0, .int .i64 0, .int .i64 0] 31)) = WX at hBN hBK hBR hvb zb ⊢
  have HB : Hid (∀ W, Below WX.heap.size WX W → Blk W (w.heap.size) 29 #[.slice An n.length cn] ∧ Blk W (w.heap.size + 1) 29 #[.slice Ak by_.length ck] ∧ Blk W (w.heap.size + 1 + 1) 31 #[.slice none 0 0, .slice none 0 0, .slice none 0 0, .int .i64 0, .int .i64 0]) := fun W hW => ⟨hBN.below hW (by omega), hBK.below hW (by omega), hBR.below hW zb⟩
  clear hBN hBK hBR
  have HS : Hid (∀ W, Below WX.heap.size WX W → Below WX.heap.size WX W ∧ W.cell? ⟨w.heap.size, 0, none⟩ = some (.slice An n.length cn) ∧ W.cell? ⟨w.heap.size + 1, 0, none⟩ = some (.slice Ak by_.length ck)) := fun W hW => ⟨hW, (HB.out W hW).1.cell 0, (HB.out W hW).2.1.cell 0⟩
  have hv0 : Below WX.heap.size WX WX := Below.refl _ _
  have zb1 : w.heap.size < WX.heap.size := by omega
  have zb2 : w.heap.size + 1 < WX.heap.size := by omega
  refine wp_region_noPanic ?_
  refine wp_region_held_drew (S := (fun W => Below w.heap.size w W ∧ W.cell? ⟨w.heap.size, 0, none⟩ = some (.slice An n.length cn) ∧ W.cell? ⟨w.heap.size + 1, 0, none⟩ = some (.slice Ak by_.length ck))) (by kernel_rfl) ?_ (fun hHeld => ?_)
  · exact ⟨(by (repeat' (first | (with_reducible exact Below.refl _ _) | (with_reducible assumption) | (with_reducible refine bel_set ?_ (by (try dsimp only); omega) _) | (with_reducible refine bel_alloc ?_ _) | (with_reducible refine bel_drewN ?_ _) | (with_reducible refine bel_drew ?_) | (with_reducible refine bel_trans ?_ (by assumption)))); done), (HS.out _ (by (repeat' (first | (with_reducible exact Below.refl _ _) | (with_reducible assumption) | (with_reducible refine bel_set ?_ (by (try dsimp only); omega) _) | (with_reducible refine bel_alloc ?_ _) | (with_reducible refine bel_drewN ?_ _) | (with_reducible refine bel_drew ?_) | (with_reducible refine bel_trans ?_ (by assumption)))); done)).2⟩
  refine tk 0 (opN rfl) (by kernel_rfl) (by rfl) (by (intro w hSw; (try dsimp only at hSw); go_simp; first | done | with_reducible rfl)) (by assumption) ?_
  try simp only [Act.put, List.setIfInBounds_toArray, List.set_cons_zero, List.set_cons_succ]
  refine tk 1 (opN rfl) (by kernel_rfl) (by rfl) (by (intro w hSw; (try dsimp only at hSw); go_simp; first | done | with_reducible rfl)) (by assumption) ?_
  try simp only [Act.put, List.setIfInBounds_toArray, List.set_cons_zero, List.set_cons_succ]
  refine tk 2 (opN rfl) (by kernel_rfl) (by rfl) (by (intro w hSw; (try dsimp only at hSw); go_simp; first | done | with_reducible rfl)) (by assumption) ?_
  try simp only [Act.put, List.setIfInBounds_toArray, List.set_cons_zero, List.set_cons_succ]
  refine tk 3 (opN rfl) (by kernel_rfl) (by rfl) (by (intro w hSw; (try dsimp only at hSw); go_simp; first | done | with_reducible rfl)) (by assumption) ?_
  try simp only [Act.put, List.setIfInBounds_toArray, List.set_cons_zero, List.set_cons_succ]
  refine tk 4 (opN rfl) (by kernel_rfl) (by rfl) (by (intro w hSw; (try dsimp only at hSw); go_simp; first | done | with_reducible rfl)) (by assumption) ?_
  try simp only [Act.put, List.setIfInBounds_toArray, List.set_cons_zero, List.set_cons_succ]
  refine tk 6 (opN rfl) (by kernel_rfl) (by rfl) (by (intro w hSw; (try dsimp only at hSw); go_simp; first | done | with_reducible rfl)) (by assumption) ?_
  try simp only [Act.put, List.setIfInBounds_toArray, List.set_cons_zero, List.set_cons_succ]
  refine wpAnyH_ready (rs := [5]) (by kernel_rfl) (by simp) ?_
  refine AllReadyH.cons (opN rfl) (fun K hK => ?_) AllReadyH.nil
  go_simp
  go_at_call 94
  refine (C_impl_KeyDigest _ _ l _ n (Ty.rd_below (by (repeat' (first | (with_reducible exact Below.refl _ _) | (with_reducible assumption) | (with_reducible refine bel_set ?_ (by (try dsimp only); omega) _) | (with_reducible refine bel_alloc ?_ _) | (with_reducible refine bel_drewN ?_ _) | (with_reducible refine bel_drew ?_) | (with_reducible refine bel_trans ?_ (by assumption)))); done) (Ty.rd_below hvb h0)) (Ty.rd_below (by (repeat' (first | (with_reducible exact Below.refl _ _) | (with_reducible assumption) | (with_reducible refine bel_set ?_ (by (try dsimp only); omega) _) | (with_reducible refine bel_alloc ?_ _) | (with_reducible refine bel_drewN ?_ _) | (with_reducible refine bel_drew ?_) | (with_reducible refine bel_trans ?_ (by assumption)))); done) (Ty.rd_below hvb h1)) s0 s1).mono ?_
  rintro e w1 ⟨A1, c1, fp1, rfl, how1, hfr1, hb1⟩
  have hx1 : Below WX.heap.size WX w1 := (by (repeat' (first | (with_reducible exact Below.refl _ _) | (with_reducible assumption) | (with_reducible refine bel_set ?_ (by (try dsimp only); omega) _) | (with_reducible refine bel_alloc ?_ _) | (with_reducible refine bel_drewN ?_ _) | (with_reducible refine bel_drew ?_) | (with_reducible refine bel_trans ?_ (by assumption)))); done)
  refine hK.out _ _ ?_ (fun hHeld => ?_)
  · (try dsimp only)
    exact ⟨(by (repeat' (first | (with_reducible exact Below.refl _ _) | (with_reducible assumption) | (with_reducible refine bel_set ?_ (by (try dsimp only); omega) _) | (with_reducible refine bel_alloc ?_ _) | (with_reducible refine bel_drewN ?_ _) | (with_reducible refine bel_drew ?_) | (with_reducible refine bel_trans ?_ (by assumption)))); done), (HS.out _ (by (repeat' (first | (with_reducible exact Below.refl _ _) | (with_reducible assumption) | (with_reducible refine bel_set ?_ (by (try dsimp only); omega) _) | (with_reducible refine bel_alloc ?_ _) | (with_reducible refine bel_drewN ?_ _) | (with_reducible refine bel_drew ?_) | (with_reducible refine bel_trans ?_ (by assumption)))); done)).2⟩
  clear hK K
  try simp only [Act.put, List.setIfInBounds_toArray, List.set_cons_zero, List.set_cons_succ]
  refine wpAnyH_ready (rs := [7]) (by kernel_rfl) (by simp) ?_
  refine AllReadyH.cons (opN rfl) (fun K hK => ?_) AllReadyH.nil
  go_simp
  go_at_call 37
  refine (C_impl_SignWithKeyB _ _ l _ by_ _ n _ (f_KeyDigest l n) till (Ty.rd_below (by (repeat' (first | (with_reducible exact Below.refl _ _) | (with_reducible assumption) | (with_reducible refine bel_set ?_ (by (try dsimp only); omega) _) | (with_reducible refine bel_alloc ?_ _) | (with_reducible refine bel_drewN ?_ _) | (with_reducible refine bel_drew ?_) | (with_reducible refine bel_trans ?_ (by assumption)))); done) (Ty.rd_below hvb h0)) (Ty.rd_below (by (repeat' (first | (with_reducible exact Below.refl _ _) | (with_reducible assumption) | (with_reducible refine bel_set ?_ (by (try dsimp only); omega) _) | (with_reducible refine bel_alloc ?_ _) | (with_reducible refine bel_drewN ?_ _) | (with_reducible refine bel_drew ?_) | (with_reducible refine bel_trans ?_ (by assumption)))); done) (Ty.rd_below hvb h2)) (Ty.rd_below (by (repeat' (first | (with_reducible exact Below.refl _ _) | (with_reducible assumption) | (with_reducible refine bel_set ?_ (by (try dsimp only); omega) _) | (with_reducible refine bel_alloc ?_ _) | (with_reducible refine bel_drewN ?_ _) | (with_reducible refine bel_drew ?_) | (with_reducible refine bel_trans ?_ (by assumption)))); done) (Ty.rd_below hvb h1)) (Ty.rd_below (by (repeat' (first | (with_reducible exact Below.refl _ _) | (with_reducible assumption) | (with_reducible refine bel_set ?_ (by (try dsimp only); omega) _) | (with_reducible refine bel_alloc ?_ _) | (with_reducible refine bel_drewN ?_ _) | (with_reducible refine bel_drew ?_) | (with_reducible refine bel_trans ?_ (by assumption)))); done) (Ty.ow_rd how1)) s0 s2 s1 hkb i3).mono ?_
  rw [← HF0.out, ← HF1.out]
  rintro e w2 ⟨csx, fpx, rfl, howx, hfrx, hb2⟩
  obtain ⟨Ad0, cd0, Ad1, cd1, Ad2, cd2, rfl⟩ := ow_Data howx
  have hx2 : Below WX.heap.size WX w2 := (by (repeat' (first | (with_reducible exact Below.refl _ _) | (with_reducible assumption) | (with_reducible refine bel_set ?_ (by (try dsimp only); omega) _) | (with_reducible refine bel_alloc ?_ _) | (with_reducible refine bel_drewN ?_ _) | (with_reducible refine bel_drew ?_) | (with_reducible refine bel_trans ?_ (by assumption)))); done)
  have hw2 : Below w.heap.size w w2 := bel_trans hvb hx2
  have hfr2 : FrI WX.heap.size w2.heap.size fpx := hfrx.mono (by have := hx1.size; (try simp only [World.size_drew, size_drewN]); omega) (Nat.le_refl _)
  refine hK.out _ _ ?_ (fun hHeld => ?_)
  · (try dsimp only)
    exact ⟨(by (repeat' (first | (with_reducible exact Below.refl _ _) | (with_reducible assumption) | (with_reducible refine bel_set ?_ (by (try dsimp only); omega) _) | (with_reducible refine bel_alloc ?_ _) | (with_reducible refine bel_drewN ?_ _) | (with_reducible refine bel_drew ?_) | (with_reducible refine bel_trans ?_ (by assumption)))); done), (HS.out _ (by (repeat' (first | (with_reducible exact Below.refl _ _) | (with_reducible assumption) | (with_reducible refine bel_set ?_ (by (try dsimp only); omega) _) | (with_reducible refine bel_alloc ?_ _) | (with_reducible refine bel_drewN ?_ _) | (with_reducible refine bel_drew ?_) | (with_reducible refine bel_trans ?_ (by assumption)))); done)).2⟩
  clear hK K
  try simp only [Act.put, List.setIfInBounds_toArray, List.set_cons_zero, List.set_cons_succ]
  obtain ⟨hN2, hK2, hR2⟩ := HB.out _ hx2
  have kR_2_0 : w2.cell? ⟨w.heap.size + 1 + 1, 0, none⟩ = some (.slice none 0 0) := hR2.cell 0
  have fR_2_0 : w2.frozen? ⟨w.heap.size + 1 + 1, 0, none⟩ = false := hR2.frozen 0
  have kR_2_1 : w2.cell? ⟨w.heap.size + 1 + 1, 1, none⟩ = some (.slice none 0 0) := hR2.cell 1
  have fR_2_1 : w2.frozen? ⟨w.heap.size + 1 + 1, 1, none⟩ = false := hR2.frozen 1
  have kR_2_2 : w2.cell? ⟨w.heap.size + 1 + 1, 2, none⟩ = some (.slice none 0 0) := hR2.cell 2
  have fR_2_2 : w2.frozen? ⟨w.heap.size + 1 + 1, 2, none⟩ = false := hR2.frozen 2
  have kR_2_3 : w2.cell? ⟨w.heap.size + 1 + 1, 3, none⟩ = some (.int .i64 0) := hR2.cell 3
  have fR_2_3 : w2.frozen? ⟨w.heap.size + 1 + 1, 3, none⟩ = false := hR2.frozen 3
  have kR_2_4 : w2.cell? ⟨w.heap.size + 1 + 1, 4, none⟩ = some (.int .i64 0) := hR2.cell 4
  have fR_2_4 : w2.frozen? ⟨w.heap.size + 1 + 1, 4, none⟩ = false := hR2.frozen 4
  have zR_2 : w.heap.size + 1 + 1 < w2.heap.size := hR2.lt
  refine tk 8 (opN rfl) (by kernel_rfl) (by rfl) (by (intro w hSw; (try dsimp only at hSw); go_simp; first | done | with_reducible rfl)) (by assumption) ?_
  try simp only [Act.put, List.setIfInBounds_toArray, List.set_cons_zero, List.set_cons_succ]
  refine tk 9 (opN rfl) (by kernel_rfl) (by rfl) (by (intro w hSw; (try dsimp only at hSw); go_simp; first | done | with_reducible rfl)) (by assumption) ?_
  try simp only [Act.put, List.setIfInBounds_toArray, List.set_cons_zero, List.set_cons_succ]
  refine wpAnyH_ready (rs := [10]) (by kernel_rfl) (by simp) ?_
  refine AllReadyH.cons (opN rfl) (fun K hK => ?_) AllReadyH.nil
  go_simp
  refine hK.out _ _ ?_ (fun hHeld => ?_)
  · (try dsimp only)
    exact ⟨(by (repeat' (first | (with_reducible exact Below.refl _ _) | (with_reducible assumption) | (with_reducible refine bel_set ?_ (by (try dsimp only); omega) _) | (with_reducible refine bel_alloc ?_ _) | (with_reducible refine bel_drewN ?_ _) | (with_reducible refine bel_drew ?_) | (with_reducible refine bel_trans ?_ (by assumption)))); done), ((((((hN2.far (p := ⟨w.heap.size + 1 + 1, 0, none⟩) (by dsimp only; omega) _).far (p := ⟨w.heap.size + 1 + 1, 1, none⟩) (by dsimp only; omega) _).far (p := ⟨w.heap.size + 1 + 1, 2, none⟩) (by dsimp only; omega) _).far (p := ⟨w.heap.size + 1 + 1, 3, none⟩) (by dsimp only; omega) _).far (p := ⟨w.heap.size + 1 + 1, 4, none⟩) (by dsimp only; omega) _).cell 0), ((((((hK2.far (p := ⟨w.heap.size + 1 + 1, 0, none⟩) (by dsimp only; omega) _).far (p := ⟨w.heap.size + 1 + 1, 1, none⟩) (by dsimp only; omega) _).far (p := ⟨w.heap.size + 1 + 1, 2, none⟩) (by dsimp only; omega) _).far (p := ⟨w.heap.size + 1 + 1, 3, none⟩) (by dsimp only; omega) _).far (p := ⟨w.heap.size + 1 + 1, 4, none⟩) (by dsimp only; omega) _).cell 0)⟩
  clear hK K
  try simp only [Act.put, List.setIfInBounds_toArray, List.set_cons_zero, List.set_cons_succ]
  refine tk 11 (opN rfl) (by kernel_rfl) (by rfl) (by (intro w hSw; (try dsimp only at hSw); go_simp; first | done | with_reducible rfl)) (by assumption) ?_
  try simp only [Act.put, List.setIfInBounds_toArray, List.set_cons_zero, List.set_cons_succ]
  refine wpAnyH_done (by kernel_rfl) ?_ _
  refine NoPanic.normal ?_
  go_wp2
  refine bodyPost_ret (v := .tuple #[.agg #[.slice Ad0 (List.length F0.1) cd0, .slice Ad1 (List.length F0.2.1) cd1, .slice Ad2 (List.length F0.2.2.1) cd2, .int .i64 F0.2.2.2.1, .int .i64 F0.2.2.2.2], .bool F1]) (by simp [results, Try.results43, go_sem, kR_2_0, fR_2_0, kR_2_1, fR_2_1, kR_2_2, fR_2_2, kR_2_3, fR_2_3, kR_2_4, fR_2_4, zR_2]) rfl ?_
  refine ⟨_, fpx, rfl, ?_, ?_, ?_⟩
  · exact Ty.ow_keep (by intro b hb'; have hb'' := (hfr2).2 b hb'; (try simp only [World.size_alloc, World.size_setCell, size_drewN, World.size_drew] at hb''); repeat (first | (with_reducible rfl) | (rw [Below.heap_setCell _ _ _ _ (by (try dsimp only); omega)]) | (rw [Below.heap_alloc _ _ _ (by (try simp only [World.size_alloc, World.size_setCell]); omega)]))) howx
  · exact hfr2.mono (by omega) (by (try simp only [World.size_alloc, World.size_setCell, size_drewN, World.size_drew]); omega)
  · exact (by (repeat' (first | (with_reducible exact Below.refl _ _) | (with_reducible assumption) | (with_reducible refine bel_set ?_ (by (try dsimp only); omega) _) | (with_reducible refine bel_alloc ?_ _) | (with_reducible refine bel_drewN ?_ _) | (with_reducible refine bel_drew ?_) | (with_reducible refine bel_trans ?_ (by assumption)))); done)
set_option maxRecDepth 100000 in
set_option maxHeartbeats 1000000 in
theorem C_spec_IssueCertificate (w : World) (v0 : Value) (l : List (Ty.D tKey)) (cs1 : List Value) (n : List (List UInt8)) (cs2 : List Value) (by_ : List (List UInt8)) (till : Int) (h0 : (Ty.sl tKey).rd w [v0] l) (h1 : (Ty.sl .str).rd w cs1 n) (h2 : (Ty.sl .str).rd w cs2 by_) (s0 : Ty.bulk (.sl tKey) l ≤ 1048576) (s1 : Ty.bulk (.sl .str) n ≤ 1048576) (s2 : Ty.bulk (.sl .str) by_ ≤ 1048576) (i3 : -9223372036854775808 ≤ till ∧ till ≤ 9223372036854775807) :
    Calls Try.prog 42 #[v0, .agg cs1.toArray, .agg cs2.toArray, .int .i64 till] w (RetAgg2 w tData (f0_IssueCertificate l n by_ till) (.bool (f1_IssueCertificate l n by_ till))) := by
  obtain ⟨An, cn, rfl⟩ := Ty.rd_slv h1
  obtain ⟨Ak, ck, rfl⟩ := Ty.rd_slv h2
  have hkb := kdg_bulk l n
  have hF0 : f0_IssueCertificate l n by_ till = f0_SignWithKey l by_ n (f_KeyDigest l n) till := rfl
  have hF1 : f1_IssueCertificate l n by_ till = f1_SignWithKey l by_ n (f_KeyDigest l n) till := rfl
  generalize f0_IssueCertificate l n by_ till = F0 at hF0 ⊢
  generalize f1_IssueCertificate l n by_ till = F1 at hF1 ⊢
  have HF0 := Lib.hid hF0
  have HF1 := Lib.hid hF1
  clear hF0 hF1
  have hBN : Blk (((w.alloc (.cells #[.slice An n.length cn] 29)).alloc (.cells #[.slice Ak by_.length ck] 29)).alloc (.cells #[.slice none 0 0, .slice none 0 0, .slice none 0 0, .int .i64 0, .int .i64 0] 31)) (w.heap.size) 29 #[.slice An n.length cn] := ((Blk.new w 29 #[.slice An n.length cn]).alloc _).alloc _
  have hBK : Blk (((w.alloc (.cells #[.slice An n.length cn] 29)).alloc (.cells #[.slice Ak by_.length ck] 29)).alloc (.cells #[.slice none 0 0, .slice none 0 0, .slice none 0 0, .int .i64 0, .int .i64 0] 31)) (w.heap.size + 1) 29 #[.slice Ak by_.length ck] := (show Blk ((w.alloc (.cells #[.slice An n.length cn] 29)).alloc (.cells #[.slice Ak by_.length ck] 29)) (w.heap.size + 1) 29 #[.slice Ak by_.length ck] from by have := Blk.new (w.alloc (.cells #[.slice An n.length cn] 29)) 29 #[.slice Ak by_.length ck]; rwa [World.size_alloc] at this).alloc _
  have hBR : Blk (((w.alloc (.cells #[.slice An n.length cn] 29)).alloc (.cells #[.slice Ak by_.length ck] 29)).alloc (.cells #[.slice none 0 0, .slice none 0 0, .slice none 0 0, .int .i64 0, .int .i64 0] 31)) (w.heap.size + 1 + 1) 31 #[.slice none 0 0, .slice none 0 0, .slice none 0 0, .int .i64 0, .int .i64 0] := by have := Blk.new ((w.alloc (.cells #[.slice An n.length cn] 29)).alloc (.cells #[.slice Ak by_.length ck] 29)) 31 #[.slice none 0 0, .slice none 0 0, .slice none 0 0, .int .i64 0, .int .i64 0]; rwa [World.size_alloc, World.size_alloc] at this
  have hvb : Below w.heap.size w (((w.alloc (.cells #[.slice An n.length cn] 29)).alloc (.cells #[.slice Ak by_.length ck] 29)).alloc (.cells #[.slice none 0 0, .slice none 0 0, .slice none 0 0, .int .i64 0, .int .i64 0] 31)) := (by repeat' (first | (with_reducible exact Below.refl _ _) | (with_reducible assumption) | (with_reducible refine bel_set ?_ (by (try dsimp only); omega) _) | (with_reducible refine bel_alloc ?_ _) | (with_reducible refine bel_drewN ?_ _) | (with_reducible refine bel_drew ?_)))
  have zb : w.heap.size + 1 + 1 < (((w.alloc (.cells #[.slice An n.length cn] 29)).alloc (.cells #[.slice Ak by_.length ck] 29)).alloc (.cells #[.slice none 0 0, .slice none 0 0, .slice none 0 0, .int .i64 0, .int .i64 0] 31)).heap.size := by simp only [World.size_alloc]; omega
  go_enter Try.func42, Try.ntmps42
  go_wp2_with fail
  generalize (((w.alloc (.cells #[.slice An n.length cn] 29)).alloc (.cells #[.slice Ak by_.length ck] 29)).alloc (.cells #[.slice none 0 0, .slice none 0 0, .slice none 0 0, .int .i64 0, .int .i64 0] 31)) = WX at hBN hBK hBR hvb zb ⊢
  have HB : Hid (∀ W, Below WX.heap.size WX W → Blk W (w.heap.size) 29 #[.slice An n.length cn] ∧ Blk W (w.heap.size + 1) 29 #[.slice Ak by_.length ck] ∧ Blk W (w.heap.size + 1 + 1) 31 #[.slice none 0 0, .slice none 0 0, .slice none 0 0, .int .i64 0, .int .i64 0]) := fun W hW => ⟨hBN.below hW (by omega), hBK.below hW (by omega), hBR.below hW zb⟩
  clear hBN hBK hBR
  have HS : Hid (∀ W, Below WX.heap.size WX W → Below WX.heap.size WX W ∧ W.cell? ⟨w.heap.size, 0, none⟩ = some (.slice An n.length cn) ∧ W.cell? ⟨w.heap.size + 1, 0, none⟩ = some (.slice Ak by_.length ck)) := fun W hW => ⟨hW, (HB.out W hW).1.cell 0, (HB.out W hW).2.1.cell 0⟩
  have hv0 : Below WX.heap.size WX WX := Below.refl _ _
  have zb1 : w.heap.size < WX.heap.size := by omega
  have zb2 : w.heap.size + 1 < WX.heap.size := by omega
  refine wp_region_noPanic ?_
  refine wp_region_held_drew (S := (fun W => Below w.heap.size w W ∧ W.cell? ⟨w.heap.size, 0, none⟩ = some (.slice An n.length cn) ∧ W.cell? ⟨w.heap.size + 1, 0, none⟩ = some (.slice Ak by_.length ck))) (by kernel_rfl) ?_ (fun hHeld => ?_)
  · exact ⟨(by (repeat' (first | (with_reducible exact Below.refl _ _) | (with_reducible assumption) | (with_reducible refine bel_set ?_ (by (try dsimp only); omega) _) | (with_reducible refine bel_alloc ?_ _) | (with_reducible refine bel_drewN ?_ _) | (with_reducible refine bel_drew ?_) | (with_reducible refine bel_trans ?_ (by assumption)))); done), (HS.out _ (by (repeat' (first | (with_reducible exact Below.refl _ _) | (with_reducible assumption) | (with_reducible refine bel_set ?_ (by (try dsimp only); omega) _) | (with_reducible refine bel_alloc ?_ _) | (with_reducible refine bel_drewN ?_ _) | (with_reducible refine bel_drew ?_) | (with_reducible refine bel_trans ?_ (by assumption)))); done)).2⟩
  refine tk 0 (opN rfl) (by kernel_rfl) (by rfl) (by (intro w hSw; (try dsimp only at hSw); go_simp; first | done | with_reducible rfl)) (by assumption) ?_
  try simp only [Act.put, List.setIfInBounds_toArray, List.set_cons_zero, List.set_cons_succ]
  refine tk 1 (opN rfl) (by kernel_rfl) (by rfl) (by (intro w hSw; (try dsimp only at hSw); go_simp; first | done | with_reducible rfl)) (by assumption) ?_
  try simp only [Act.put, List.setIfInBounds_toArray, List.set_cons_zero, List.set_cons_succ]
  refine tk 2 (opN rfl) (by kernel_rfl) (by rfl) (by (intro w hSw; (try dsimp only at hSw); go_simp; first | done | with_reducible rfl)) (by assumption) ?_
  try simp only [Act.put, List.setIfInBounds_toArray, List.set_cons_zero, List.set_cons_succ]
  refine tk 3 (opN rfl) (by kernel_rfl) (by rfl) (by (intro w hSw; (try dsimp only at hSw); go_simp; first | done | with_reducible rfl)) (by assumption) ?_
  try simp only [Act.put, List.setIfInBounds_toArray, List.set_cons_zero, List.set_cons_succ]
  refine tk 4 (opN rfl) (by kernel_rfl) (by rfl) (by (intro w hSw; (try dsimp only at hSw); go_simp; first | done | with_reducible rfl)) (by assumption) ?_
  try simp only [Act.put, List.setIfInBounds_toArray, List.set_cons_zero, List.set_cons_succ]
  refine tk 6 (opN rfl) (by kernel_rfl) (by rfl) (by (intro w hSw; (try dsimp only at hSw); go_simp; first | done | with_reducible rfl)) (by assumption) ?_
  try simp only [Act.put, List.setIfInBounds_toArray, List.set_cons_zero, List.set_cons_succ]
  refine wpAnyH_ready (rs := [5]) (by kernel_rfl) (by simp) ?_
  refine AllReadyH.cons (opN rfl) (fun K hK => ?_) AllReadyH.nil
  go_simp
  go_at_call 93
  refine (C_spec_KeyDigest _ _ l _ n (Ty.rd_below (by (repeat' (first | (with_reducible exact Below.refl _ _) | (with_reducible assumption) | (with_reducible refine bel_set ?_ (by (try dsimp only); omega) _) | (with_reducible refine bel_alloc ?_ _) | (with_reducible refine bel_drewN ?_ _) | (with_reducible refine bel_drew ?_) | (with_reducible refine bel_trans ?_ (by assumption)))); done) (Ty.rd_below hvb h0)) (Ty.rd_below (by (repeat' (first | (with_reducible exact Below.refl _ _) | (with_reducible assumption) | (with_reducible refine bel_set ?_ (by (try dsimp only); omega) _) | (with_reducible refine bel_alloc ?_ _) | (with_reducible refine bel_drewN ?_ _) | (with_reducible refine bel_drew ?_) | (with_reducible refine bel_trans ?_ (by assumption)))); done) (Ty.rd_below hvb h1)) s0 s1).mono ?_
  rintro e w1 ⟨A1, c1, fp1, rfl, how1, hfr1, hb1⟩
  have hx1 : Below WX.heap.size WX w1 := (by (repeat' (first | (with_reducible exact Below.refl _ _) | (with_reducible assumption) | (with_reducible refine bel_set ?_ (by (try dsimp only); omega) _) | (with_reducible refine bel_alloc ?_ _) | (with_reducible refine bel_drewN ?_ _) | (with_reducible refine bel_drew ?_) | (with_reducible refine bel_trans ?_ (by assumption)))); done)
  refine hK.out _ _ ?_ (fun hHeld => ?_)
  · (try dsimp only)
    exact ⟨(by (repeat' (first | (with_reducible exact Below.refl _ _) | (with_reducible assumption) | (with_reducible refine bel_set ?_ (by (try dsimp only); omega) _) | (with_reducible refine bel_alloc ?_ _) | (with_reducible refine bel_drewN ?_ _) | (with_reducible refine bel_drew ?_) | (with_reducible refine bel_trans ?_ (by assumption)))); done), (HS.out _ (by (repeat' (first | (with_reducible exact Below.refl _ _) | (with_reducible assumption) | (with_reducible refine bel_set ?_ (by (try dsimp only); omega) _) | (with_reducible refine bel_alloc ?_ _) | (with_reducible refine bel_drewN ?_ _) | (with_reducible refine bel_drew ?_) | (with_reducible refine bel_trans ?_ (by assumption)))); done)).2⟩
  clear hK K
  try simp only [Act.put, List.setIfInBounds_toArray, List.set_cons_zero, List.set_cons_succ]
  refine wpAnyH_ready (rs := [7]) (by kernel_rfl) (by simp) ?_
  refine AllReadyH.cons (opN rfl) (fun K hK => ?_) AllReadyH.nil
  go_simp
  go_at_call 34
  refine (C_spec_SignWithKeyB _ _ l _ by_ _ n _ (f_KeyDigest l n) till (Ty.rd_below (by (repeat' (first | (with_reducible exact Below.refl _ _) | (with_reducible assumption) | (with_reducible refine bel_set ?_ (by (try dsimp only); omega) _) | (with_reducible refine bel_alloc ?_ _) | (with_reducible refine bel_drewN ?_ _) | (with_reducible refine bel_drew ?_) | (with_reducible refine bel_trans ?_ (by assumption)))); done) (Ty.rd_below hvb h0)) (Ty.rd_below (by (repeat' (first | (with_reducible exact Below.refl _ _) | (with_reducible assumption) | (with_reducible refine bel_set ?_ (by (try dsimp only); omega) _) | (with_reducible refine bel_alloc ?_ _) | (with_reducible refine bel_drewN ?_ _) | (with_reducible refine bel_drew ?_) | (with_reducible refine bel_trans ?_ (by assumption)))); done) (Ty.rd_below hvb h2)) (Ty.rd_below (by (repeat' (first | (with_reducible exact Below.refl _ _) | (with_reducible assumption) | (with_reducible refine bel_set ?_ (by (try dsimp only); omega) _) | (with_reducible refine bel_alloc ?_ _) | (with_reducible refine bel_drewN ?_ _) | (with_reducible refine bel_drew ?_) | (with_reducible refine bel_trans ?_ (by assumption)))); done) (Ty.rd_below hvb h1)) (Ty.rd_below (by (repeat' (first | (with_reducible exact Below.refl _ _) | (with_reducible assumption) | (with_reducible refine bel_set ?_ (by (try dsimp only); omega) _) | (with_reducible refine bel_alloc ?_ _) | (with_reducible refine bel_drewN ?_ _) | (with_reducible refine bel_drew ?_) | (with_reducible refine bel_trans ?_ (by assumption)))); done) (Ty.ow_rd how1)) s0 s2 s1 hkb i3).mono ?_
  rw [← HF0.out, ← HF1.out]
  rintro e w2 ⟨csx, fpx, rfl, howx, hfrx, hb2⟩
  obtain ⟨Ad0, cd0, Ad1, cd1, Ad2, cd2, rfl⟩ := ow_Data howx
  have hx2 : Below WX.heap.size WX w2 := (by (repeat' (first | (with_reducible exact Below.refl _ _) | (with_reducible assumption) | (with_reducible refine bel_set ?_ (by (try dsimp only); omega) _) | (with_reducible refine bel_alloc ?_ _) | (with_reducible refine bel_drewN ?_ _) | (with_reducible refine bel_drew ?_) | (with_reducible refine bel_trans ?_ (by assumption)))); done)
  have hw2 : Below w.heap.size w w2 := bel_trans hvb hx2
  have hfr2 : FrI WX.heap.size w2.heap.size fpx := hfrx.mono (by have := hx1.size; (try simp only [World.size_drew, size_drewN]); omega) (Nat.le_refl _)
  refine hK.out _ _ ?_ (fun hHeld => ?_)
  · (try dsimp only)
    exact ⟨(by (repeat' (first | (with_reducible exact Below.refl _ _) | (with_reducible assumption) | (with_reducible refine bel_set ?_ (by (try dsimp only); omega) _) | (with_reducible refine bel_alloc ?_ _) | (with_reducible refine bel_drewN ?_ _) | (with_reducible refine bel_drew ?_) | (with_reducible refine bel_trans ?_ (by assumption)))); done), (HS.out _ (by (repeat' (first | (with_reducible exact Below.refl _ _) | (with_reducible assumption) | (with_reducible refine bel_set ?_ (by (try dsimp only); omega) _) | (with_reducible refine bel_alloc ?_ _) | (with_reducible refine bel_drewN ?_ _) | (with_reducible refine bel_drew ?_) | (with_reducible refine bel_trans ?_ (by assumption)))); done)).2⟩
  clear hK K
  try simp only [Act.put, List.setIfInBounds_toArray, List.set_cons_zero, List.set_cons_succ]
  obtain ⟨hN2, hK2, hR2⟩ := HB.out _ hx2
  have kR_2_0 : w2.cell? ⟨w.heap.size + 1 + 1, 0, none⟩ = some (.slice none 0 0) := hR2.cell 0
  have fR_2_0 : w2.frozen? ⟨w.heap.size + 1 + 1, 0, none⟩ = false := hR2.frozen 0
  have kR_2_1 : w2.cell? ⟨w.heap.size + 1 + 1, 1, none⟩ = some (.slice none 0 0) := hR2.cell 1
  have fR_2_1 : w2.frozen? ⟨w.heap.size + 1 + 1, 1, none⟩ = false := hR2.frozen 1
  have kR_2_2 : w2.cell? ⟨w.heap.size + 1 + 1, 2, none⟩ = some (.slice none 0 0) := hR2.cell 2
  have fR_2_2 : w2.frozen? ⟨w.heap.size + 1 + 1, 2, none⟩ = false := hR2.frozen 2
  have kR_2_3 : w2.cell? ⟨w.heap.size + 1 + 1, 3, none⟩ = some (.int .i64 0) := hR2.cell 3
  have fR_2_3 : w2.frozen? ⟨w.heap.size + 1 + 1, 3, none⟩ = false := hR2.frozen 3
  have kR_2_4 : w2.cell? ⟨w.heap.size + 1 + 1, 4, none⟩ = some (.int .i64 0) := hR2.cell 4
  have fR_2_4 : w2.frozen? ⟨w.heap.size + 1 + 1, 4, none⟩ = false := hR2.frozen 4
  have zR_2 : w.heap.size + 1 + 1 < w2.heap.size := hR2.lt
  refine tk 8 (opN rfl) (by kernel_rfl) (by rfl) (by (intro w hSw; (try dsimp only at hSw); go_simp; first | done | with_reducible rfl)) (by assumption) ?_
  try simp only [Act.put, List.setIfInBounds_toArray, List.set_cons_zero, List.set_cons_succ]
  refine tk 9 (opN rfl) (by kernel_rfl) (by rfl) (by (intro w hSw; (try dsimp only at hSw); go_simp; first | done | with_reducible rfl)) (by assumption) ?_
  try simp only [Act.put, List.setIfInBounds_toArray, List.set_cons_zero, List.set_cons_succ]
  refine wpAnyH_ready (rs := [10]) (by kernel_rfl) (by simp) ?_
  refine AllReadyH.cons (opN rfl) (fun K hK => ?_) AllReadyH.nil
  go_simp
  refine hK.out _ _ ?_ (fun hHeld => ?_)
  · (try dsimp only)
    exact ⟨(by (repeat' (first | (with_reducible exact Below.refl _ _) | (with_reducible assumption) | (with_reducible refine bel_set ?_ (by (try dsimp only); omega) _) | (with_reducible refine bel_alloc ?_ _) | (with_reducible refine bel_drewN ?_ _) | (with_reducible refine bel_drew ?_) | (with_reducible refine bel_trans ?_ (by assumption)))); done), ((((((hN2.far (p := ⟨w.heap.size + 1 + 1, 0, none⟩) (by dsimp only; omega) _).far (p := ⟨w.heap.size + 1 + 1, 1, none⟩) (by dsimp only; omega) _).far (p := ⟨w.heap.size + 1 + 1, 2, none⟩) (by dsimp only; omega) _).far (p := ⟨w.heap.size + 1 + 1, 3, none⟩) (by dsimp only; omega) _).far (p := ⟨w.heap.size + 1 + 1, 4, none⟩) (by dsimp only; omega) _).cell 0), ((((((hK2.far (p := ⟨w.heap.size + 1 + 1, 0, none⟩) (by dsimp only; omega) _).far (p := ⟨w.heap.size + 1 + 1, 1, none⟩) (by dsimp only; omega) _).far (p := ⟨w.heap.size + 1 + 1, 2, none⟩) (by dsimp only; omega) _).far (p := ⟨w.heap.size + 1 + 1, 3, none⟩) (by dsimp only; omega) _).far (p := ⟨w.heap.size + 1 + 1, 4, none⟩) (by dsimp only; omega) _).cell 0)⟩
  clear hK K
  try simp only [Act.put, List.setIfInBounds_toArray, List.set_cons_zero, List.set_cons_succ]
  refine tk 11 (opN rfl) (by kernel_rfl) (by rfl) (by (intro w hSw; (try dsimp only at hSw); go_simp; first | done | with_reducible rfl)) (by assumption) ?_
  try simp only [Act.put, List.setIfInBounds_toArray, List.set_cons_zero, List.set_cons_succ]
  refine wpAnyH_done (by kernel_rfl) ?_ _
  refine NoPanic.normal ?_
  go_wp2
  refine bodyPost_ret (v := .tuple #[.agg #[.slice Ad0 (List.length F0.1) cd0, .slice Ad1 (List.length F0.2.1) cd1, .slice Ad2 (List.length F0.2.2.1) cd2, .int .i64 F0.2.2.2.1, .int .i64 F0.2.2.2.2], .bool F1]) (by simp [results, Try.results42, go_sem, kR_2_0, fR_2_0, kR_2_1, fR_2_1, kR_2_2, fR_2_2, kR_2_3, fR_2_3, kR_2_4, fR_2_4, zR_2]) rfl ?_
  refine ⟨_, fpx, rfl, ?_, ?_, ?_⟩
  · exact Ty.ow_keep (by intro b hb'; have hb'' := (hfr2).2 b hb'; (try simp only [World.size_alloc, World.size_setCell, size_drewN, World.size_drew] at hb''); repeat (first | (with_reducible rfl) | (rw [Below.heap_setCell _ _ _ _ (by (try dsimp only); omega)]) | (rw [Below.heap_alloc _ _ _ (by (try simp only [World.size_alloc, World.size_setCell]); omega)]))) howx
  · exact hfr2.mono (by omega) (by (try simp only [World.size_alloc, World.size_setCell, size_drewN, World.size_drew]); omega)
  · exact (by (repeat' (first | (with_reducible exact Below.refl _ _) | (with_reducible assumption) | (with_reducible refine bel_set ?_ (by (try dsimp only); omega) _) | (with_reducible refine bel_alloc ?_ _) | (with_reducible refine bel_drewN ?_ _) | (with_reducible refine bel_drew ?_) | (with_reducible refine bel_trans ?_ (by assumption)))); done)
end Go.Proofs.Ytamodpeeocmneaa
