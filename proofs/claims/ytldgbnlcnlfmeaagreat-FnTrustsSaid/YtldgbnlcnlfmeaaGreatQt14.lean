/- Texts of this claim, merged by a program: Tcn. -/
import Derived.Test.YtldgbnlcnlfmeaaGreatQtP
import Derived.Test.YtldgbnlcnlfmeaaGreatQt13
import Derived.Test.YtldgbnlcnlfmeaaGreatQt3
import Derived.Test.YtldgbnlcnlfmeaaGreatQt1
import Derived.Test.YtldgbnlcnlfmeaaGreatQt2
namespace Go.Proofs.YtldgbnlcnlfmeaaGreat
open Go.RowKit
set_option linter.unusedVariables false
set_option linter.unusedSimpArgs false
def lenV (v : Value) : Nat := match v with | .slice _ n _ => n | _ => 0
theorem ow_empty (w : World) (e : Ty) (A : Option Addr) : (Ty.sl e).ow w [.slice A 0 0] [] [] := ⟨A, 0, rfl, Nat.le_refl _, ⟨Nat.zero_le _, fun _ => rfl⟩, by simp, .inl ⟨rfl, rfl⟩⟩
set_option maxRecDepth 100000 in
set_option maxHeartbeats 2000000 in
theorem C_impl_TrustChain (w : World) (cs1 : List Value) (t : Ty.D tTrustPolicy) (cs2 : List Value) (x : Ty.D tData) (now : Int) (h1 : Ty.rd w tTrustPolicy cs1 t) (h2 : Ty.rd w tData cs2 x) (s0 : Ty.bulk tTrustPolicy t ≤ 1048576) (s1 : Ty.bulk tData x ≤ 1048576) (i2 : -9223372036854775808 ≤ now ∧ now ≤ 9223372036854775807) :
  Calls Tryz.prog 8 #[.agg cs1.toArray, .agg cs2.toArray, .int .i64 now] w (RetSl2 w (.sl .str) (f0_TrustChain t x now) (.bool (f1_TrustChain t x now))) := by
 have h1' := h1
 have h2' := h2
 obtain ⟨At0, ct0, At1, ct1, At2, ct2, At3, ct3, rfl, tg0, tg1, tg2, tg3⟩ := rd_TrustPolicy h1
 obtain ⟨Ax0, cx0, Ax1, cx1, Ax2, cx2, rfl, xg0, xg1, xg2, xg3, xg4⟩ := rd_Data h2
 obtain ⟨s0a, s0b, s0c, s0d⟩ := trust_parts s0
 obtain ⟨_, _, _, _, _, m9⟩ := Ty.rd_sl tg3
 have hF0 : f0_TrustChain t x now = (tcGo t now 4 x []).1 := rfl
 have hF1 : f1_TrustChain t x now = (tcGo t now 4 x []).2 := rfl
 generalize f0_TrustChain t x now = F0 at hF0 ⊢
 generalize f1_TrustChain t x now = F1 at hF1 ⊢
 have HF : Hid (tcGo t now 4 x [] = (F0, F1)) := Prod.ext hF0.symm hF1.symm
 clear hF0 hF1
 have kb0_0 : ((w.alloc (.cells #[.slice At0 (List.length t.1) ct0, .slice At1 (List.length t.2.1) ct1, .slice At2 (List.length t.2.2.1) ct2, .slice At3 (List.length t.2.2.2) ct3] 29)).alloc (.cells #[.slice Ax0 (List.length x.1) cx0, .slice Ax1 (List.length x.2.1) cx1, .slice Ax2 (List.length x.2.2.1) cx2, .int .i64 x.2.2.2.1, .int .i64 x.2.2.2.2] 34)).cell? ⟨w.heap.size, 0, none⟩ = some (.slice At0 (List.length t.1) ct0) := ((World.cell?_alloc_lt _ _ _ b_30).trans (cell_new w _ _ 0 b_27))
 have kb0_1 : ((w.alloc (.cells #[.slice At0 (List.length t.1) ct0, .slice At1 (List.length t.2.1) ct1, .slice At2 (List.length t.2.2.1) ct2, .slice At3 (List.length t.2.2.2) ct3] 29)).alloc (.cells #[.slice Ax0 (List.length x.1) cx0, .slice Ax1 (List.length x.2.1) cx1, .slice Ax2 (List.length x.2.2.1) cx2, .int .i64 x.2.2.2.1, .int .i64 x.2.2.2.2] 34)).cell? ⟨w.heap.size, 1, none⟩ = some (.slice At1 (List.length t.2.1) ct1) := ((World.cell?_alloc_lt _ _ _ b_30).trans (cell_new w _ _ 1 b_27))
 have kb0_2 : ((w.alloc (.cells #[.slice At0 (List.length t.1) ct0, .slice At1 (List.length t.2.1) ct1, .slice At2 (List.length t.2.2.1) ct2, .slice At3 (List.length t.2.2.2) ct3] 29)).alloc (.cells #[.slice Ax0 (List.length x.1) cx0, .slice Ax1 (List.length x.2.1) cx1, .slice Ax2 (List.length x.2.2.1) cx2, .int .i64 x.2.2.2.1, .int .i64 x.2.2.2.2] 34)).cell? ⟨w.heap.size, 2, none⟩ = some (.slice At2 (List.length t.2.2.1) ct2) := ((World.cell?_alloc_lt _ _ _ b_30).trans (cell_new w _ _ 2 b_27))
 have kb0_3 : ((w.alloc (.cells #[.slice At0 (List.length t.1) ct0, .slice At1 (List.length t.2.1) ct1, .slice At2 (List.length t.2.2.1) ct2, .slice At3 (List.length t.2.2.2) ct3] 29)).alloc (.cells #[.slice Ax0 (List.length x.1) cx0, .slice Ax1 (List.length x.2.1) cx1, .slice Ax2 (List.length x.2.2.1) cx2, .int .i64 x.2.2.2.1, .int .i64 x.2.2.2.2] 34)).cell? ⟨w.heap.size, 3, none⟩ = some (.slice At3 (List.length t.2.2.2) ct3) := ((World.cell?_alloc_lt _ _ _ b_30).trans (cell_new w _ _ 3 b_27))
 have kb1_0 : ((w.alloc (.cells #[.slice At0 (List.length t.1) ct0, .slice At1 (List.length t.2.1) ct1, .slice At2 (List.length t.2.2.1) ct2, .slice At3 (List.length t.2.2.2) ct3] 29)).alloc (.cells #[.slice Ax0 (List.length x.1) cx0, .slice Ax1 (List.length x.2.1) cx1, .slice Ax2 (List.length x.2.2.1) cx2, .int .i64 x.2.2.2.1, .int .i64 x.2.2.2.2] 34)).cell? ⟨w.heap.size + 1, 0, none⟩ = some (.slice Ax0 (List.length x.1) cx0) := (cell_new (w.alloc (.cells #[.slice At0 (List.length t.1) ct0, .slice At1 (List.length t.2.1) ct1, .slice At2 (List.length t.2.2.1) ct2, .slice At3 (List.length t.2.2.2) ct3] 29)) _ _ 0 b_27)
 have kb1_1 : ((w.alloc (.cells #[.slice At0 (List.length t.1) ct0, .slice At1 (List.length t.2.1) ct1, .slice At2 (List.length t.2.2.1) ct2, .slice At3 (List.length t.2.2.2) ct3] 29)).alloc (.cells #[.slice Ax0 (List.length x.1) cx0, .slice Ax1 (List.length x.2.1) cx1, .slice Ax2 (List.length x.2.2.1) cx2, .int .i64 x.2.2.2.1, .int .i64 x.2.2.2.2] 34)).cell? ⟨w.heap.size + 1, 1, none⟩ = some (.slice Ax1 (List.length x.2.1) cx1) := (cell_new (w.alloc (.cells #[.slice At0 (List.length t.1) ct0, .slice At1 (List.length t.2.1) ct1, .slice At2 (List.length t.2.2.1) ct2, .slice At3 (List.length t.2.2.2) ct3] 29)) _ _ 1 b_27)
 have kb1_2 : ((w.alloc (.cells #[.slice At0 (List.length t.1) ct0, .slice At1 (List.length t.2.1) ct1, .slice At2 (List.length t.2.2.1) ct2, .slice At3 (List.length t.2.2.2) ct3] 29)).alloc (.cells #[.slice Ax0 (List.length x.1) cx0, .slice Ax1 (List.length x.2.1) cx1, .slice Ax2 (List.length x.2.2.1) cx2, .int .i64 x.2.2.2.1, .int .i64 x.2.2.2.2] 34)).cell? ⟨w.heap.size + 1, 2, none⟩ = some (.slice Ax2 (List.length x.2.2.1) cx2) := (cell_new (w.alloc (.cells #[.slice At0 (List.length t.1) ct0, .slice At1 (List.length t.2.1) ct1, .slice At2 (List.length t.2.2.1) ct2, .slice At3 (List.length t.2.2.2) ct3] 29)) _ _ 2 b_27)
 have kb1_3 : ((w.alloc (.cells #[.slice At0 (List.length t.1) ct0, .slice At1 (List.length t.2.1) ct1, .slice At2 (List.length t.2.2.1) ct2, .slice At3 (List.length t.2.2.2) ct3] 29)).alloc (.cells #[.slice Ax0 (List.length x.1) cx0, .slice Ax1 (List.length x.2.1) cx1, .slice Ax2 (List.length x.2.2.1) cx2, .int .i64 x.2.2.2.1, .int .i64 x.2.2.2.2] 34)).cell? ⟨w.heap.size + 1, 3, none⟩ = some (.int .i64 x.2.2.2.1) := (cell_new (w.alloc (.cells #[.slice At0 (List.length t.1) ct0, .slice At1 (List.length t.2.1) ct1, .slice At2 (List.length t.2.2.1) ct2, .slice At3 (List.length t.2.2.2) ct3] 29)) _ _ 3 b_27)
 have kb1_4 : ((w.alloc (.cells #[.slice At0 (List.length t.1) ct0, .slice At1 (List.length t.2.1) ct1, .slice At2 (List.length t.2.2.1) ct2, .slice At3 (List.length t.2.2.2) ct3] 29)).alloc (.cells #[.slice Ax0 (List.length x.1) cx0, .slice Ax1 (List.length x.2.1) cx1, .slice Ax2 (List.length x.2.2.1) cx2, .int .i64 x.2.2.2.1, .int .i64 x.2.2.2.2] 34)).cell? ⟨w.heap.size + 1, 4, none⟩ = some (.int .i64 x.2.2.2.2) := (cell_new (w.alloc (.cells #[.slice At0 (List.length t.1) ct0, .slice At1 (List.length t.2.1) ct1, .slice At2 (List.length t.2.2.1) ct2, .slice At3 (List.length t.2.2.2) ct3] 29)) _ _ 4 b_27)
 have hvb : Below w.heap.size w ((w.alloc (.cells #[.slice At0 (List.length t.1) ct0, .slice At1 (List.length t.2.1) ct1, .slice At2 (List.length t.2.2.1) ct2, .slice At3 (List.length t.2.2.2) ct3] 29)).alloc (.cells #[.slice Ax0 (List.length x.1) cx0, .slice Ax1 (List.length x.2.1) cx1, .slice Ax2 (List.length x.2.2.1) cx2, .int .i64 x.2.2.2.1, .int .i64 x.2.2.2.2] 34)) := b_10
 have zb0 := Lib.hid (show ((w.alloc (.cells #[.slice At0 (List.length t.1) ct0, .slice At1 (List.length t.2.1) ct1, .slice At2 (List.length t.2.2.1) ct2, .slice At3 (List.length t.2.2.2) ct3] 29)).alloc (.cells #[.slice Ax0 (List.length x.1) cx0, .slice Ax1 (List.length x.2.1) cx1, .slice Ax2 (List.length x.2.2.1) cx2, .int .i64 x.2.2.2.1, .int .i64 x.2.2.2.2] 34)).heap.size = w.heap.size + 1 + 1 from by simp only [World.size_alloc])
 have zb : w.heap.size + 1 < ((w.alloc (.cells #[.slice At0 (List.length t.1) ct0, .slice At1 (List.length t.2.1) ct1, .slice At2 (List.length t.2.2.1) ct2, .slice At3 (List.length t.2.2.2) ct3] 29)).alloc (.cells #[.slice Ax0 (List.length x.1) cx0, .slice Ax1 (List.length x.2.1) cx1, .slice Ax2 (List.length x.2.2.1) cx2, .int .i64 x.2.2.2.1, .int .i64 x.2.2.2.2] 34)).heap.size := by simp only [World.size_alloc]; omega
 have hT0 : Blk ((w.alloc (.cells #[.slice At0 (List.length t.1) ct0, .slice At1 (List.length t.2.1) ct1, .slice At2 (List.length t.2.2.1) ct2, .slice At3 (List.length t.2.2.2) ct3] 29)).alloc (.cells #[.slice Ax0 (List.length x.1) cx0, .slice Ax1 (List.length x.2.1) cx1, .slice Ax2 (List.length x.2.2.1) cx2, .int .i64 x.2.2.2.1, .int .i64 x.2.2.2.2] 34)) w.heap.size 29 #[.slice At0 (List.length t.1) ct0, .slice At1 (List.length t.2.1) ct1, .slice At2 (List.length t.2.2.1) ct2, .slice At3 (List.length t.2.2.2) ct3] := (Blk.new w _ _).alloc _
 have hX0 : Blk ((w.alloc (.cells #[.slice At0 (List.length t.1) ct0, .slice At1 (List.length t.2.1) ct1, .slice At2 (List.length t.2.2.1) ct2, .slice At3 (List.length t.2.2.2) ct3] 29)).alloc (.cells #[.slice Ax0 (List.length x.1) cx0, .slice Ax1 (List.length x.2.1) cx1, .slice Ax2 (List.length x.2.2.1) cx2, .int .i64 x.2.2.2.1, .int .i64 x.2.2.2.2] 34)) (w.heap.size + 1) 34 #[.slice Ax0 (List.length x.1) cx0, .slice Ax1 (List.length x.2.1) cx1, .slice Ax2 (List.length x.2.2.1) cx2, .int .i64 x.2.2.2.1, .int .i64 x.2.2.2.2] := by have := Blk.new (w.alloc (.cells #[.slice At0 (List.length t.1) ct0, .slice At1 (List.length t.2.1) ct1, .slice At2 (List.length t.2.2.1) ct2, .slice At3 (List.length t.2.2.2) ct3] 29)) 34 #[.slice Ax0 (List.length x.1) cx0, .slice Ax1 (List.length x.2.1) cx1, .slice Ax2 (List.length x.2.2.1) cx2, .int .i64 x.2.2.2.1, .int .i64 x.2.2.2.2]; rwa [World.size_alloc] at this
 go_enter Tryz.func8, Tryz.ntmps8
 go_wp2
 generalize ((w.alloc (.cells #[.slice At0 (List.length t.1) ct0, .slice At1 (List.length t.2.1) ct1, .slice At2 (List.length t.2.2.1) ct2, .slice At3 (List.length t.2.2.2) ct3] 29)).alloc (.cells #[.slice Ax0 (List.length x.1) cx0, .slice Ax1 (List.length x.2.1) cx1, .slice Ax2 (List.length x.2.2.1) cx2, .int .i64 x.2.2.2.1, .int .i64 x.2.2.2.2] 34)) = WX at hT0 hX0 kb0_0 kb0_1 kb0_2 kb0_3 kb1_0 kb1_1 kb1_2 kb1_3 kb1_4 hvb zb zb0 ⊢
 have HC : Hid (∀ V, Below WX.heap.size WX V → V.cell? ⟨w.heap.size, 0, none⟩ = some (.slice At0 (List.length t.1) ct0) ∧ V.cell? ⟨w.heap.size, 1, none⟩ = some (.slice At1 (List.length t.2.1) ct1) ∧ V.cell? ⟨w.heap.size, 2, none⟩ = some (.slice At2 (List.length t.2.2.1) ct2) ∧ V.cell? ⟨w.heap.size, 3, none⟩ = some (.slice At3 (List.length t.2.2.2) ct3) ∧ V.cell? ⟨w.heap.size + 1, 0, none⟩ = some (.slice Ax0 (List.length x.1) cx0) ∧ V.cell? ⟨w.heap.size + 1, 1, none⟩ = some (.slice Ax1 (List.length x.2.1) cx1) ∧ V.cell? ⟨w.heap.size + 1, 2, none⟩ = some (.slice Ax2 (List.length x.2.2.1) cx2) ∧ V.cell? ⟨w.heap.size + 1, 3, none⟩ = some (.int .i64 x.2.2.2.1) ∧ V.cell? ⟨w.heap.size + 1, 4, none⟩ = some (.int .i64 x.2.2.2.2)) := fun V hW => ⟨(hW.cell (p := ⟨w.heap.size, 0, none⟩) b_34).trans kb0_0, (hW.cell (p := ⟨w.heap.size, 1, none⟩) b_34).trans kb0_1, (hW.cell (p := ⟨w.heap.size, 2, none⟩) b_34).trans kb0_2, (hW.cell (p := ⟨w.heap.size, 3, none⟩) b_34).trans kb0_3, (hW.cell (p := ⟨w.heap.size + 1, 0, none⟩) b_34).trans kb1_0, (hW.cell (p := ⟨w.heap.size + 1, 1, none⟩) b_34).trans kb1_1, (hW.cell (p := ⟨w.heap.size + 1, 2, none⟩) b_34).trans kb1_2, (hW.cell (p := ⟨w.heap.size + 1, 3, none⟩) b_34).trans kb1_3, (hW.cell (p := ⟨w.heap.size + 1, 4, none⟩) b_34).trans kb1_4⟩
 clear kb0_0 kb0_1 kb0_2 kb0_3 kb1_0 kb1_1 kb1_2 kb1_3 kb1_4
 have hr0 : DRow (.sl .str) (WX.alloc (.cells #[] 32)) WX.heap.size 32 (.slice (some ⟨w.heap.size + 1 + 1, 0, none⟩) 0 0) [] := by rw [← zb0.out]; exact DRow.lit0 (.sl .str) WX 32 (Nat.le_refl _)
 have HR0 := Lib.hid hr0
 clear hr0
 go_loopw [8] (fun ch wr => ∃ (y : Ty.D tData) (cs : List Value) (c : List (List (List UInt8))), Blk wr w.heap.size 29 #[.slice At0 (List.length t.1) ct0, .slice At1 (List.length t.2.1) ct1, .slice At2 (List.length t.2.2.1) ct2, .slice At3 (List.length t.2.2.2) ct3] ∧ Blk wr (w.heap.size + 1) 34 cs.toArray ∧ Ty.rd w tData cs y ∧ Ty.bulk tData y ≤ 1048576 ∧ DRow (.sl .str) wr WX.heap.size 32 ch c ∧ c.length ≤ 4 ∧ tcGo t now (4 - c.length) y c = (F0, F1) ∧ Below w.heap.size w wr) (fun ch _ => 5 - lenV ch)
 case atStart => exact ⟨x, _, [], hT0.alloc _, hX0.alloc _, h2', s1, HR0.out, by simp, HF.out, b_10⟩
 case round =>
  obtain ⟨y, cs, c, hT, hX, hy, sy, hr, hc4, hgo, hw⟩ := hrel
  have hy' := hy
  obtain ⟨Ay0, cy0, Ay1, cy1, Ay2, cy2, rfl, yg0, yg1, yg2, yg3, yg4⟩ := rd_Data hy
  obtain ⟨Ac, cc, hvc⟩ := hr.form
  subst hvc
  have HR := Lib.hid hr
  have HGO := Lib.hid hgo
  clear hr hgo
  obtain ⟨syn, syk⟩ := data_bulk_key sy
  have hnl := Ty.bulk_len syk
  have hT1 := hT
  have hX1 := hX
  obtain ⟨kT_1_0, kT_1_1, kT_1_2, kT_1_3, fT_1_0, fT_1_1, fT_1_2, fT_1_3, zT_1⟩ := bk4 hT1
  obtain ⟨kX_1_0, kX_1_1, kX_1_2, kX_1_3, kX_1_4, fX_1_0, fX_1_1, fX_1_2, fX_1_3, fX_1_4, zX_1⟩ := bk5 hX1
  have HBS : Hid (WX.heap.size = w.heap.size + 1 + 1) := zb0
  have HBAD : Hid (tcOk t y = false → F0 = [] ∧ F1 = false) := fun hb => by
   have := HGO.out
   rw [tcGo_bad hb] at this
   exact ⟨(congrArg Prod.fst this).symm, (congrArg Prod.snd this).symm⟩
  go_wp2_with fail
  refine (C_impl_VerifySignature _ _ t.1 _ y (Ty.rd_below hw tg0) (Ty.rd_below hw hy') s0a sy).mono ?_
  rintro e w2 ⟨rfl, hb2⟩
  clear kT_1_0 fT_1_0 kT_1_1 fT_1_1 kT_1_2 fT_1_2 kT_1_3 fT_1_3 kX_1_0 fX_1_0 kX_1_1 fX_1_1 kX_1_2 fX_1_2 kX_1_3 fX_1_3 kX_1_4 fX_1_4 zT_1 zX_1
  cases q0 : f_VerifySignature t.1 y
  ·have HZ := HBAD.out (by unfold tcOk; rw [q0]; rfl)
   have HZ0 := Lib.hid HZ.1
   have HZ1 := Lib.hid HZ.2
   clear HZ
   have hw2 : Below w.heap.size w w2 := bel_trans hw hb2
   go_wp2
   go_ret2
   rw [HZ0.out, HZ1.out]
   exact ⟨_, _, [], rfl, ow_empty _ _ _, FrI.nil _ _, b_10⟩
  have hT2 := hT.below (hb2) hT.lt
  have hX2 := hX.below (hb2) hX.lt
  have hw2 : Below w.heap.size w w2 := bel_trans hw (hb2)
  obtain ⟨kT_2_0, kT_2_1, kT_2_2, kT_2_3, fT_2_0, fT_2_1, fT_2_2, fT_2_3, zT_2⟩ := bk4 hT2
  obtain ⟨kX_2_0, kX_2_1, kX_2_2, kX_2_3, kX_2_4, fX_2_0, fX_2_1, fX_2_2, fX_2_3, fX_2_4, zX_2⟩ := bk5 hX2
  go_wp2_with fail
  refine (C_impl_Allowed _ _ t.2.1 _ y.1 _ y.2.2.1 (Ty.rd_below hw2 tg1) (Ty.rd_below hw2 yg0) (Ty.rd_below hw2 yg2) s0b syn syk).mono ?_
  rintro e w3 ⟨rfl, hb3⟩
  have hr3 : Below wr.heap.size wr w3 := bel_trans hb2 hb3
  clear kT_2_0 fT_2_0 kT_2_1 fT_2_1 kT_2_2 fT_2_2 kT_2_3 fT_2_3 kX_2_0 fX_2_0 kX_2_1 fX_2_1 kX_2_2 fX_2_2 kX_2_3 fX_2_3 kX_2_4 fX_2_4 zT_2 zX_2
  cases q1 : f_Allowed t.2.1 y.1 y.2.2.1
  ·have HZ := HBAD.out (by unfold tcOk; rw [q1]; simp)
   have HZ0 := Lib.hid HZ.1
   have HZ1 := Lib.hid HZ.2
   clear HZ
   have hw3 : Below w.heap.size w w3 := bel_trans hw hr3
   go_wp2
   go_ret2
   rw [HZ0.out, HZ1.out]
   exact ⟨_, _, [], rfl, ow_empty _ _ _, FrI.nil _ _, b_10⟩
  have HOK := Lib.hid (show tcOk t y = true from by unfold tcOk; rw [q0, q1]; rfl)
  clear q0 q1
  by_cases hlen : c.length = 4
  ·have HZ0 : Hid (F0 = []) := by have := HGO.out; rw [hlen] at this; exact (congrArg Prod.fst this).symm
   have HZ1 : Hid (F1 = false) := by have := HGO.out; rw [hlen] at this; exact (congrArg Prod.snd this).symm
   have q2 : ((c.length : Int) == 4) = true := by rw [hlen]; rfl
   have hw3 : Below w.heap.size w w3 := bel_trans hw hr3
   clear hlen
   go_wp2
   go_ret2
   rw [HZ0.out, HZ1.out]
   exact ⟨_, _, [], rfl, ow_empty _ _ _, FrI.nil _ _, b_10⟩
  have q2 : ((c.length : Int) == 4) = false := by rw [beq_eq_false_iff_ne]; omega
  obtain ⟨m, hm⟩ : ∃ m, 4 - c.length = m + 1 := ⟨3 - c.length, by omega⟩
  have HM := Lib.hid hm
  clear hm
  have hT3 := hT.below (hr3) hT.lt
  have hX3 := hX.below (hr3) hX.lt
  have hw3 : Below w.heap.size w w3 := bel_trans hw (hr3)
  obtain ⟨kT_3_0, kT_3_1, kT_3_2, kT_3_3, fT_3_0, fT_3_1, fT_3_2, fT_3_3, zT_3⟩ := bk4 hT3
  obtain ⟨kX_3_0, kX_3_1, kX_3_2, kX_3_3, kX_3_4, fX_3_0, fX_3_1, fX_3_2, fX_3_3, fX_3_4, zX_3⟩ := bk5 hX3
  have hz3 := hr3.size
  go_wp2_with fail
  refine (C_impl_copyName _ _ y.2.2.1 (Ty.rd_below hw3 yg2) b_37).mono ?_
  rintro e w4 ⟨cs4, fp4, rfl, how4, hfr4, hb4⟩
  obtain ⟨A4, c4, rfl⟩ := Ty.ow_slv how4
  have hz4 := hb4.size
  clear q2
  clear kT_3_0 fT_3_0 kT_3_1 fT_3_1 kT_3_2 fT_3_2 kT_3_3 fT_3_3 kX_3_0 fX_3_0 kX_3_1 fX_3_1 kX_3_2 fX_3_2 kX_3_3 fX_3_3 kX_3_4 fX_3_4 zT_3 zX_3
  go_wp2_with (at_builtin; go_loud (refine wpList_append_drow (e := .sl .str) rfl _ _ 26 rfl wr WX.heap.size 32 info_Name rfl Tryz.underlying26 _ _ c [y.2.2.1] b_39 b_39 HR.out (bel_trans hr3 b_4) (Src.lit 32 how4 (hfr4.mono hz3 (Nat.le_refl _))) (by rw [List.length_singleton]; omega) (by rw [List.length_singleton]; unfold maxLen; omega) (by have := hX.lt; have := HBS.out; omega) ?_))
  intro v' w5 hr' hg'
  have hT5 := grow_blk (w0 := wr) (bel_trans hr3 b_4) hg' hT (fun e => by have := (HR.out.block _ e.symm).1; have := HBS.out; omega)
  have hX5 := grow_blk (w0 := wr) (bel_trans hr3 b_4) hg' hX (fun e => by have := (HR.out.block _ e.symm).1; have := HBS.out; omega)
  have hw5 : Below w.heap.size w w5 := grow_bel (bel_trans hw (bel_trans hr3 b_4)) hg' (fun g hg => by have := (HR.out.block g hg).1; have := HBS.out; omega)
  obtain ⟨A5, c5, hv5⟩ := hr'.form
  subst hv5
  have HR5 := Lib.hid hr'
  clear hr' hg'
  have hl5 : (c ++ [y.2.2.1]).length = c.length + 1 := by rw [List.length_append, List.length_singleton]
  have HL5 := Lib.hid hl5
  clear hl5
  obtain ⟨kT_5_0, kT_5_1, kT_5_2, kT_5_3, fT_5_0, fT_5_1, fT_5_2, fT_5_3, zT_5⟩ := bk4 hT5
  obtain ⟨kX_5_0, kX_5_1, kX_5_2, kX_5_3, kX_5_4, fX_5_0, fX_5_1, fX_5_2, fX_5_3, fX_5_4, zX_5⟩ := bk5 hX5
  go_wp2_with fail
  refine (C_impl_IsAnchor _ _ t _ y.2.2.1 (Ty.rd_below hw5 h1') (Ty.rd_below hw5 yg2) s0 syk).mono ?_
  rintro e w6 ⟨rfl, hb6⟩
  clear kT_5_0 fT_5_0 kT_5_1 fT_5_1 kT_5_2 fT_5_2 kT_5_3 fT_5_3 kX_5_0 fX_5_0 kX_5_1 fX_5_1 kX_5_2 fX_5_2 kX_5_3 fX_5_3 kX_5_4 fX_5_4 zT_5 zX_5
  cases q3 : f_IsAnchor t y.2.2.1
  rotate_left
  ·have HZ : Hid (F0 = c ++ [y.2.2.1] ∧ F1 = true) := by
    have := HGO.out
    rw [HM.out, tcGo_anchor HOK.out q3] at this
    exact ⟨(congrArg Prod.fst this).symm, (congrArg Prod.snd this).symm⟩
   have HR6 := Lib.hid (HR5.out.below hb6)
   have hw6 : Below w.heap.size w w6 := bel_trans hw5 hb6
   obtain ⟨A9, c9, fp9, hv9, how9, hfr9⟩ := HR6.out.own
   injection hv9 with hv9a hv9b hv9c
   subst hv9a; subst hv9c
   go_wp2
   go_ret2
   rw [HZ.out.1, HZ.out.2]
   exact ⟨_, _, fp9, by first | rfl | (rw [show List.length (c ++ [y.2.2.1]) = c.length + 1 from HL5.out]; rfl), how9, hfr9.mono (by have := HBS.out; omega) (Nat.le_refl _), hw6⟩
  have hT6 := hT5.below hb6 hT5.lt
  have hX6 := hX5.below hb6 hX5.lt
  have hw6 : Below w.heap.size w w6 := bel_trans hw5 hb6
  obtain ⟨kT_6_0, kT_6_1, kT_6_2, kT_6_3, fT_6_0, fT_6_1, fT_6_2, fT_6_3, zT_6⟩ := bk4 hT6
  obtain ⟨kX_6_0, kX_6_1, kX_6_2, kX_6_3, kX_6_4, fX_6_0, fX_6_1, fX_6_2, fX_6_3, fX_6_4, zX_6⟩ := bk5 hX6
  go_wp2_with fail
  refine (C_impl_FindCertificate _ _ t _ y.2.2.1 now (Ty.rd_below hw6 h1') (Ty.rd_below hw6 yg2) s0 syk i2).mono ?_
  rintro e w7 ⟨rfl, hb7⟩
  have hb57 : Below w5.heap.size w5 w7 := bel_trans hb6 hb7
  have hw7 : Below w.heap.size w w7 := bel_trans hw6 hb7
  clear kT_6_0 fT_6_0 kT_6_1 fT_6_1 kT_6_2 fT_6_2 kT_6_3 fT_6_3 kX_6_0 fX_6_0 kX_6_1 fX_6_1 kX_6_2 fX_6_2 kX_6_3 fX_6_3 kX_6_4 fX_6_4 zT_6 zX_6
  rcases find_cases t y.2.2.1 now with hf | ⟨k, hk, hf⟩
  ·have HZ : Hid (F0 = [] ∧ F1 = false) := by
    have := HGO.out
    rw [tcGo_miss q3 hf] at this
    exact ⟨(congrArg Prod.fst this).symm, (congrArg Prod.snd this).symm⟩
   have HZ0 := Lib.hid HZ.out.1
   have HZ1 := Lib.hid HZ.out.2
   clear HZ
   rw [hf]
   clear hf q3
   go_wp2
   go_ret2
   rw [HZ0.out, HZ1.out]
   exact ⟨_, _, [], rfl, ow_empty _ _ _, FrI.nil _ _, b_10⟩
  rw [hf]
  have HNX : Hid (tcGo t now m ((t.2.2.2)[k]) (c ++ [y.2.2.1]) = (F0, F1)) := by
   have := HGO.out
   rwa [HM.out, tcGo_next HOK.out q3 hk hf] at this
  clear hf q3
  have hT7 := hT5.below hb57 hT5.lt
  have hX7 := hX5.below hb57 hX5.lt
  have HR7 := Lib.hid (HR5.out.below hb57)
  obtain ⟨kT_7_0, kT_7_1, kT_7_2, kT_7_3, fT_7_0, fT_7_1, fT_7_2, fT_7_3, zT_7⟩ := bk4 hT7
  obtain ⟨kX_7_0, kX_7_1, kX_7_2, kX_7_3, kX_7_4, fX_7_0, fX_7_1, fX_7_2, fX_7_3, fX_7_4, zX_7⟩ := bk5 hX7
  have i0 : (0 : Int) ≤ (k : Int) := by omega
  have i1 : (k : Int) < (List.length t.2.2.2 : Int) := by omega
  obtain ⟨b, o, dsd, rfl, hld, hcelld, hrdd⟩ := Ty.rd_at tg3 hk
  have hrdd' := hrdd
  obtain ⟨Ad0, cd0, Ad1, cd1, Ad2, cd2, rfl, dg0, dg1, dg2, dg3, dg4⟩ := rd_Data hrdd
  have e0 : w.cell? ⟨b, o + k * 5, none⟩ = some (.slice Ad0 (List.length (t.2.2.2)[k].1) cd0) := by simpa [Ty.sz] using hcelld 0 b_36
  have e1 : w.cell? ⟨b, o + k * 5 + 1, none⟩ = some (.slice Ad1 (List.length (t.2.2.2)[k].2.1) cd1) := by simpa [Ty.sz] using hcelld 1 b_36
  have e2 : w.cell? ⟨b, o + k * 5 + 2, none⟩ = some (.slice Ad2 (List.length (t.2.2.2)[k].2.2.1) cd2) := by simpa [Ty.sz] using hcelld 2 b_36
  have e3 : w.cell? ⟨b, o + k * 5 + 3, none⟩ = some (.int .i64 (t.2.2.2)[k].2.2.2.1) := by simpa [Ty.sz] using hcelld 3 b_36
  have e4 : w.cell? ⟨b, o + k * 5 + 4, none⟩ = some (.int .i64 (t.2.2.2)[k].2.2.2.2) := by simpa [Ty.sz] using hcelld 4 b_36
  have hlb : b < w.heap.size := World.block_lt_of_cell? w _ e0
  have g0 : w7.cell? ⟨b, o + k * 5, none⟩ = some (.slice Ad0 (List.length (t.2.2.2)[k].1) cd0) := (hw7.cell (p := ⟨b, o + k * 5, none⟩) hlb).trans e0
  have g1 : w7.cell? ⟨b, o + k * 5 + 1, none⟩ = some (.slice Ad1 (List.length (t.2.2.2)[k].2.1) cd1) := (hw7.cell (p := ⟨b, o + k * 5 + 1, none⟩) hlb).trans e1
  have g2 : w7.cell? ⟨b, o + k * 5 + 2, none⟩ = some (.slice Ad2 (List.length (t.2.2.2)[k].2.2.1) cd2) := (hw7.cell (p := ⟨b, o + k * 5 + 2, none⟩) hlb).trans e2
  have g3 : w7.cell? ⟨b, o + k * 5 + 3, none⟩ = some (.int .i64 (t.2.2.2)[k].2.2.2.1) := (hw7.cell (p := ⟨b, o + k * 5 + 3, none⟩) hlb).trans e3
  have g4 : w7.cell? ⟨b, o + k * 5 + 4, none⟩ = some (.int .i64 (t.2.2.2)[k].2.2.2.2) := (hw7.cell (p := ⟨b, o + k * 5 + 4, none⟩) hlb).trans e4
  clear hcelld hld e0 e1 e2 e3 e4
  have szk := Ty.bulk_at s0d hk
  have hr7 : DRow (.sl .str) w7 WX.heap.size 32 (.slice A5 (c.length + 1) c5) (c ++ [y.2.2.1]) := by rw [← HL5.out]; exact HR7.out
  have HR7' := Lib.hid hr7
  clear hr7
  generalize (t.2.2.2)[k] = z at *
  go_wp2
  go_roundw
  case rel =>
   refine ⟨z, _, c ++ [y.2.2.1], (((((hT7.far (p := ⟨w.heap.size + 1, 0, none⟩) b_34 (.slice Ad0 (List.length z.1) cd0)).far (p := ⟨w.heap.size + 1, 1, none⟩) b_34 (.slice Ad1 (List.length z.2.1) cd1)).far (p := ⟨w.heap.size + 1, 2, none⟩) b_34 (.slice Ad2 (List.length z.2.2.1) cd2)).far (p := ⟨w.heap.size + 1, 3, none⟩) b_34 (.int .i64 z.2.2.2.1)).far (p := ⟨w.heap.size + 1, 4, none⟩) b_34 (.int .i64 z.2.2.2.2)), (((((hX7.set_ 0 (.slice Ad0 (List.length z.1) cd0)).set_ 1 (.slice Ad1 (List.length z.2.1) cd1)).set_ 2 (.slice Ad2 (List.length z.2.2.1) cd2)).set_ 3 (.int .i64 z.2.2.2.1)).set_ 4 (.int .i64 z.2.2.2.2)), hrdd', szk, (((((HR7'.out.far (p := ⟨w.heap.size + 1, 0, none⟩) (by dsimp only; have := HBS.out; omega) (.slice Ad0 (List.length z.1) cd0)).far (p := ⟨w.heap.size + 1, 1, none⟩) (by dsimp only; have := HBS.out; omega) (.slice Ad1 (List.length z.2.1) cd1)).far (p := ⟨w.heap.size + 1, 2, none⟩) (by dsimp only; have := HBS.out; omega) (.slice Ad2 (List.length z.2.2.1) cd2)).far (p := ⟨w.heap.size + 1, 3, none⟩) (by dsimp only; have := HBS.out; omega) (.int .i64 z.2.2.2.1)).far (p := ⟨w.heap.size + 1, 4, none⟩) (by dsimp only; have := HBS.out; omega) (.int .i64 z.2.2.2.2)), by rw [HL5.out]; omega, by rw [HL5.out, show 4 - (c.length + 1) = m from by have := HM.out; omega]; exact HNX.out, (bel_set (bel_set (bel_set (bel_set (bel_set hw7 (p := ⟨w.heap.size + 1, 0, none⟩) b_34 (.slice Ad0 (List.length z.1) cd0)) (p := ⟨w.heap.size + 1, 1, none⟩) b_34 (.slice Ad1 (List.length z.2.1) cd1)) (p := ⟨w.heap.size + 1, 2, none⟩) b_34 (.slice Ad2 (List.length z.2.2.1) cd2)) (p := ⟨w.heap.size + 1, 3, none⟩) b_34 (.int .i64 z.2.2.2.1)) (p := ⟨w.heap.size + 1, 4, none⟩) b_34 (.int .i64 z.2.2.2.2))⟩
  case measure => show 5 - (c.length + 1) < 5 - c.length; have := HM.out; omega
set_option maxRecDepth 100000 in
set_option maxHeartbeats 2000000 in
theorem C_spec_TrustChain (w : World) (cs1 : List Value) (t : Ty.D tTrustPolicy) (cs2 : List Value) (x : Ty.D tData) (now : Int) (h1 : Ty.rd w tTrustPolicy cs1 t) (h2 : Ty.rd w tData cs2 x) (s0 : Ty.bulk tTrustPolicy t ≤ 1048576) (s1 : Ty.bulk tData x ≤ 1048576) (i2 : -9223372036854775808 ≤ now ∧ now ≤ 9223372036854775807) :
  Calls Tryz.prog 9 #[.agg cs1.toArray, .agg cs2.toArray, .int .i64 now] w (RetSl2 w (.sl .str) (f0_TrustChain t x now) (.bool (f1_TrustChain t x now))) := by
 have h1' := h1
 have h2' := h2
 obtain ⟨At0, ct0, At1, ct1, At2, ct2, At3, ct3, rfl, tg0, tg1, tg2, tg3⟩ := rd_TrustPolicy h1
 obtain ⟨Ax0, cx0, Ax1, cx1, Ax2, cx2, rfl, xg0, xg1, xg2, xg3, xg4⟩ := rd_Data h2
 obtain ⟨s0a, s0b, s0c, s0d⟩ := trust_parts s0
 obtain ⟨_, _, _, _, _, m9⟩ := Ty.rd_sl tg3
 have hF0 : f0_TrustChain t x now = (tcGo t now 4 x []).1 := rfl
 have hF1 : f1_TrustChain t x now = (tcGo t now 4 x []).2 := rfl
 generalize f0_TrustChain t x now = F0 at hF0 ⊢
 generalize f1_TrustChain t x now = F1 at hF1 ⊢
 have HF : Hid (tcGo t now 4 x [] = (F0, F1)) := Prod.ext hF0.symm hF1.symm
 clear hF0 hF1
 have kb0_0 : ((w.alloc (.cells #[.slice At0 (List.length t.1) ct0, .slice At1 (List.length t.2.1) ct1, .slice At2 (List.length t.2.2.1) ct2, .slice At3 (List.length t.2.2.2) ct3] 29)).alloc (.cells #[.slice Ax0 (List.length x.1) cx0, .slice Ax1 (List.length x.2.1) cx1, .slice Ax2 (List.length x.2.2.1) cx2, .int .i64 x.2.2.2.1, .int .i64 x.2.2.2.2] 34)).cell? ⟨w.heap.size, 0, none⟩ = some (.slice At0 (List.length t.1) ct0) := ((World.cell?_alloc_lt _ _ _ b_30).trans (cell_new w _ _ 0 b_27))
 have kb0_1 : ((w.alloc (.cells #[.slice At0 (List.length t.1) ct0, .slice At1 (List.length t.2.1) ct1, .slice At2 (List.length t.2.2.1) ct2, .slice At3 (List.length t.2.2.2) ct3] 29)).alloc (.cells #[.slice Ax0 (List.length x.1) cx0, .slice Ax1 (List.length x.2.1) cx1, .slice Ax2 (List.length x.2.2.1) cx2, .int .i64 x.2.2.2.1, .int .i64 x.2.2.2.2] 34)).cell? ⟨w.heap.size, 1, none⟩ = some (.slice At1 (List.length t.2.1) ct1) := ((World.cell?_alloc_lt _ _ _ b_30).trans (cell_new w _ _ 1 b_27))
 have kb0_2 : ((w.alloc (.cells #[.slice At0 (List.length t.1) ct0, .slice At1 (List.length t.2.1) ct1, .slice At2 (List.length t.2.2.1) ct2, .slice At3 (List.length t.2.2.2) ct3] 29)).alloc (.cells #[.slice Ax0 (List.length x.1) cx0, .slice Ax1 (List.length x.2.1) cx1, .slice Ax2 (List.length x.2.2.1) cx2, .int .i64 x.2.2.2.1, .int .i64 x.2.2.2.2] 34)).cell? ⟨w.heap.size, 2, none⟩ = some (.slice At2 (List.length t.2.2.1) ct2) := ((World.cell?_alloc_lt _ _ _ b_30).trans (cell_new w _ _ 2 b_27))
 have kb0_3 : ((w.alloc (.cells #[.slice At0 (List.length t.1) ct0, .slice At1 (List.length t.2.1) ct1, .slice At2 (List.length t.2.2.1) ct2, .slice At3 (List.length t.2.2.2) ct3] 29)).alloc (.cells #[.slice Ax0 (List.length x.1) cx0, .slice Ax1 (List.length x.2.1) cx1, .slice Ax2 (List.length x.2.2.1) cx2, .int .i64 x.2.2.2.1, .int .i64 x.2.2.2.2] 34)).cell? ⟨w.heap.size, 3, none⟩ = some (.slice At3 (List.length t.2.2.2) ct3) := ((World.cell?_alloc_lt _ _ _ b_30).trans (cell_new w _ _ 3 b_27))
 have kb1_0 : ((w.alloc (.cells #[.slice At0 (List.length t.1) ct0, .slice At1 (List.length t.2.1) ct1, .slice At2 (List.length t.2.2.1) ct2, .slice At3 (List.length t.2.2.2) ct3] 29)).alloc (.cells #[.slice Ax0 (List.length x.1) cx0, .slice Ax1 (List.length x.2.1) cx1, .slice Ax2 (List.length x.2.2.1) cx2, .int .i64 x.2.2.2.1, .int .i64 x.2.2.2.2] 34)).cell? ⟨w.heap.size + 1, 0, none⟩ = some (.slice Ax0 (List.length x.1) cx0) := (cell_new (w.alloc (.cells #[.slice At0 (List.length t.1) ct0, .slice At1 (List.length t.2.1) ct1, .slice At2 (List.length t.2.2.1) ct2, .slice At3 (List.length t.2.2.2) ct3] 29)) _ _ 0 b_27)
 have kb1_1 : ((w.alloc (.cells #[.slice At0 (List.length t.1) ct0, .slice At1 (List.length t.2.1) ct1, .slice At2 (List.length t.2.2.1) ct2, .slice At3 (List.length t.2.2.2) ct3] 29)).alloc (.cells #[.slice Ax0 (List.length x.1) cx0, .slice Ax1 (List.length x.2.1) cx1, .slice Ax2 (List.length x.2.2.1) cx2, .int .i64 x.2.2.2.1, .int .i64 x.2.2.2.2] 34)).cell? ⟨w.heap.size + 1, 1, none⟩ = some (.slice Ax1 (List.length x.2.1) cx1) := (cell_new (w.alloc (.cells #[.slice At0 (List.length t.1) ct0, .slice At1 (List.length t.2.1) ct1, .slice At2 (List.length t.2.2.1) ct2, .slice At3 (List.length t.2.2.2) ct3] 29)) _ _ 1 b_27)
 have kb1_2 : ((w.alloc (.cells #[.slice At0 (List.length t.1) ct0, .slice At1 (List.length t.2.1) ct1, .slice At2 (List.length t.2.2.1) ct2, .slice At3 (List.length t.2.2.2) ct3] 29)).alloc (.cells #[.slice Ax0 (List.length x.1) cx0, .slice Ax1 (List.length x.2.1) cx1, .slice Ax2 (List.length x.2.2.1) cx2, .int .i64 x.2.2.2.1, .int .i64 x.2.2.2.2] 34)).cell? ⟨w.heap.size + 1, 2, none⟩ = some (.slice Ax2 (List.length x.2.2.1) cx2) := (cell_new (w.alloc (.cells #[.slice At0 (List.length t.1) ct0, .slice At1 (List.length t.2.1) ct1, .slice At2 (List.length t.2.2.1) ct2, .slice At3 (List.length t.2.2.2) ct3] 29)) _ _ 2 b_27)
 have kb1_3 : ((w.alloc (.cells #[.slice At0 (List.length t.1) ct0, .slice At1 (List.length t.2.1) ct1, .slice At2 (List.length t.2.2.1) ct2, .slice At3 (List.length t.2.2.2) ct3] 29)).alloc (.cells #[.slice Ax0 (List.length x.1) cx0, .slice Ax1 (List.length x.2.1) cx1, .slice Ax2 (List.length x.2.2.1) cx2, .int .i64 x.2.2.2.1, .int .i64 x.2.2.2.2] 34)).cell? ⟨w.heap.size + 1, 3, none⟩ = some (.int .i64 x.2.2.2.1) := (cell_new (w.alloc (.cells #[.slice At0 (List.length t.1) ct0, .slice At1 (List.length t.2.1) ct1, .slice At2 (List.length t.2.2.1) ct2, .slice At3 (List.length t.2.2.2) ct3] 29)) _ _ 3 b_27)
 have kb1_4 : ((w.alloc (.cells #[.slice At0 (List.length t.1) ct0, .slice At1 (List.length t.2.1) ct1, .slice At2 (List.length t.2.2.1) ct2, .slice At3 (List.length t.2.2.2) ct3] 29)).alloc (.cells #[.slice Ax0 (List.length x.1) cx0, .slice Ax1 (List.length x.2.1) cx1, .slice Ax2 (List.length x.2.2.1) cx2, .int .i64 x.2.2.2.1, .int .i64 x.2.2.2.2] 34)).cell? ⟨w.heap.size + 1, 4, none⟩ = some (.int .i64 x.2.2.2.2) := (cell_new (w.alloc (.cells #[.slice At0 (List.length t.1) ct0, .slice At1 (List.length t.2.1) ct1, .slice At2 (List.length t.2.2.1) ct2, .slice At3 (List.length t.2.2.2) ct3] 29)) _ _ 4 b_27)
 have hvb : Below w.heap.size w ((w.alloc (.cells #[.slice At0 (List.length t.1) ct0, .slice At1 (List.length t.2.1) ct1, .slice At2 (List.length t.2.2.1) ct2, .slice At3 (List.length t.2.2.2) ct3] 29)).alloc (.cells #[.slice Ax0 (List.length x.1) cx0, .slice Ax1 (List.length x.2.1) cx1, .slice Ax2 (List.length x.2.2.1) cx2, .int .i64 x.2.2.2.1, .int .i64 x.2.2.2.2] 34)) := b_10
 have zb0 := Lib.hid (show ((w.alloc (.cells #[.slice At0 (List.length t.1) ct0, .slice At1 (List.length t.2.1) ct1, .slice At2 (List.length t.2.2.1) ct2, .slice At3 (List.length t.2.2.2) ct3] 29)).alloc (.cells #[.slice Ax0 (List.length x.1) cx0, .slice Ax1 (List.length x.2.1) cx1, .slice Ax2 (List.length x.2.2.1) cx2, .int .i64 x.2.2.2.1, .int .i64 x.2.2.2.2] 34)).heap.size = w.heap.size + 1 + 1 from by simp only [World.size_alloc])
 have zb : w.heap.size + 1 < ((w.alloc (.cells #[.slice At0 (List.length t.1) ct0, .slice At1 (List.length t.2.1) ct1, .slice At2 (List.length t.2.2.1) ct2, .slice At3 (List.length t.2.2.2) ct3] 29)).alloc (.cells #[.slice Ax0 (List.length x.1) cx0, .slice Ax1 (List.length x.2.1) cx1, .slice Ax2 (List.length x.2.2.1) cx2, .int .i64 x.2.2.2.1, .int .i64 x.2.2.2.2] 34)).heap.size := by simp only [World.size_alloc]; omega
 have hT0 : Blk ((w.alloc (.cells #[.slice At0 (List.length t.1) ct0, .slice At1 (List.length t.2.1) ct1, .slice At2 (List.length t.2.2.1) ct2, .slice At3 (List.length t.2.2.2) ct3] 29)).alloc (.cells #[.slice Ax0 (List.length x.1) cx0, .slice Ax1 (List.length x.2.1) cx1, .slice Ax2 (List.length x.2.2.1) cx2, .int .i64 x.2.2.2.1, .int .i64 x.2.2.2.2] 34)) w.heap.size 29 #[.slice At0 (List.length t.1) ct0, .slice At1 (List.length t.2.1) ct1, .slice At2 (List.length t.2.2.1) ct2, .slice At3 (List.length t.2.2.2) ct3] := (Blk.new w _ _).alloc _
 have hX0 : Blk ((w.alloc (.cells #[.slice At0 (List.length t.1) ct0, .slice At1 (List.length t.2.1) ct1, .slice At2 (List.length t.2.2.1) ct2, .slice At3 (List.length t.2.2.2) ct3] 29)).alloc (.cells #[.slice Ax0 (List.length x.1) cx0, .slice Ax1 (List.length x.2.1) cx1, .slice Ax2 (List.length x.2.2.1) cx2, .int .i64 x.2.2.2.1, .int .i64 x.2.2.2.2] 34)) (w.heap.size + 1) 34 #[.slice Ax0 (List.length x.1) cx0, .slice Ax1 (List.length x.2.1) cx1, .slice Ax2 (List.length x.2.2.1) cx2, .int .i64 x.2.2.2.1, .int .i64 x.2.2.2.2] := by have := Blk.new (w.alloc (.cells #[.slice At0 (List.length t.1) ct0, .slice At1 (List.length t.2.1) ct1, .slice At2 (List.length t.2.2.1) ct2, .slice At3 (List.length t.2.2.2) ct3] 29)) 34 #[.slice Ax0 (List.length x.1) cx0, .slice Ax1 (List.length x.2.1) cx1, .slice Ax2 (List.length x.2.2.1) cx2, .int .i64 x.2.2.2.1, .int .i64 x.2.2.2.2]; rwa [World.size_alloc] at this
 go_enter Tryz.func9, Tryz.ntmps9
 go_wp2
 generalize ((w.alloc (.cells #[.slice At0 (List.length t.1) ct0, .slice At1 (List.length t.2.1) ct1, .slice At2 (List.length t.2.2.1) ct2, .slice At3 (List.length t.2.2.2) ct3] 29)).alloc (.cells #[.slice Ax0 (List.length x.1) cx0, .slice Ax1 (List.length x.2.1) cx1, .slice Ax2 (List.length x.2.2.1) cx2, .int .i64 x.2.2.2.1, .int .i64 x.2.2.2.2] 34)) = WX at hT0 hX0 kb0_0 kb0_1 kb0_2 kb0_3 kb1_0 kb1_1 kb1_2 kb1_3 kb1_4 hvb zb zb0 ⊢
 have HC : Hid (∀ V, Below WX.heap.size WX V → V.cell? ⟨w.heap.size, 0, none⟩ = some (.slice At0 (List.length t.1) ct0) ∧ V.cell? ⟨w.heap.size, 1, none⟩ = some (.slice At1 (List.length t.2.1) ct1) ∧ V.cell? ⟨w.heap.size, 2, none⟩ = some (.slice At2 (List.length t.2.2.1) ct2) ∧ V.cell? ⟨w.heap.size, 3, none⟩ = some (.slice At3 (List.length t.2.2.2) ct3) ∧ V.cell? ⟨w.heap.size + 1, 0, none⟩ = some (.slice Ax0 (List.length x.1) cx0) ∧ V.cell? ⟨w.heap.size + 1, 1, none⟩ = some (.slice Ax1 (List.length x.2.1) cx1) ∧ V.cell? ⟨w.heap.size + 1, 2, none⟩ = some (.slice Ax2 (List.length x.2.2.1) cx2) ∧ V.cell? ⟨w.heap.size + 1, 3, none⟩ = some (.int .i64 x.2.2.2.1) ∧ V.cell? ⟨w.heap.size + 1, 4, none⟩ = some (.int .i64 x.2.2.2.2)) := fun V hW => ⟨(hW.cell (p := ⟨w.heap.size, 0, none⟩) b_34).trans kb0_0, (hW.cell (p := ⟨w.heap.size, 1, none⟩) b_34).trans kb0_1, (hW.cell (p := ⟨w.heap.size, 2, none⟩) b_34).trans kb0_2, (hW.cell (p := ⟨w.heap.size, 3, none⟩) b_34).trans kb0_3, (hW.cell (p := ⟨w.heap.size + 1, 0, none⟩) b_34).trans kb1_0, (hW.cell (p := ⟨w.heap.size + 1, 1, none⟩) b_34).trans kb1_1, (hW.cell (p := ⟨w.heap.size + 1, 2, none⟩) b_34).trans kb1_2, (hW.cell (p := ⟨w.heap.size + 1, 3, none⟩) b_34).trans kb1_3, (hW.cell (p := ⟨w.heap.size + 1, 4, none⟩) b_34).trans kb1_4⟩
 clear kb0_0 kb0_1 kb0_2 kb0_3 kb1_0 kb1_1 kb1_2 kb1_3 kb1_4
 have hr0 : DRow (.sl .str) (WX.alloc (.cells #[] 32)) WX.heap.size 32 (.slice (some ⟨w.heap.size + 1 + 1, 0, none⟩) 0 0) [] := by rw [← zb0.out]; exact DRow.lit0 (.sl .str) WX 32 (Nat.le_refl _)
 have HR0 := Lib.hid hr0
 clear hr0
 go_loopw [8] (fun ch wr => ∃ (y : Ty.D tData) (cs : List Value) (c : List (List (List UInt8))), Blk wr w.heap.size 29 #[.slice At0 (List.length t.1) ct0, .slice At1 (List.length t.2.1) ct1, .slice At2 (List.length t.2.2.1) ct2, .slice At3 (List.length t.2.2.2) ct3] ∧ Blk wr (w.heap.size + 1) 34 cs.toArray ∧ Ty.rd w tData cs y ∧ Ty.bulk tData y ≤ 1048576 ∧ DRow (.sl .str) wr WX.heap.size 32 ch c ∧ c.length ≤ 4 ∧ tcGo t now (4 - c.length) y c = (F0, F1) ∧ Below w.heap.size w wr) (fun ch _ => 5 - lenV ch)
 case atStart => exact ⟨x, _, [], hT0.alloc _, hX0.alloc _, h2', s1, HR0.out, by simp, HF.out, b_10⟩
 case round =>
  obtain ⟨y, cs, c, hT, hX, hy, sy, hr, hc4, hgo, hw⟩ := hrel
  have hy' := hy
  obtain ⟨Ay0, cy0, Ay1, cy1, Ay2, cy2, rfl, yg0, yg1, yg2, yg3, yg4⟩ := rd_Data hy
  obtain ⟨Ac, cc, hvc⟩ := hr.form
  subst hvc
  have HR := Lib.hid hr
  have HGO := Lib.hid hgo
  clear hr hgo
  obtain ⟨syn, syk⟩ := data_bulk_key sy
  have hnl := Ty.bulk_len syk
  have hT1 := hT
  have hX1 := hX
  obtain ⟨kT_1_0, kT_1_1, kT_1_2, kT_1_3, fT_1_0, fT_1_1, fT_1_2, fT_1_3, zT_1⟩ := bk4 hT1
  obtain ⟨kX_1_0, kX_1_1, kX_1_2, kX_1_3, kX_1_4, fX_1_0, fX_1_1, fX_1_2, fX_1_3, fX_1_4, zX_1⟩ := bk5 hX1
  have HBS : Hid (WX.heap.size = w.heap.size + 1 + 1) := zb0
  by_cases hlen : c.length = 4
  ·have HZ0 : Hid (F0 = []) := by have := HGO.out; rw [hlen] at this; exact (congrArg Prod.fst this).symm
   have HZ1 : Hid (F1 = false) := by have := HGO.out; rw [hlen] at this; exact (congrArg Prod.snd this).symm
   have q2 : decide ((c.length : Int) < 4) = false := by rw [hlen]; rfl
   clear hlen
   go_wp2
   go_ret2
   rw [HZ0.out, HZ1.out]
   exact ⟨_, _, [], rfl, ow_empty _ _ _, FrI.nil _ _, b_10⟩
  have q2 : decide ((c.length : Int) < 4) = true := by simp; omega
  obtain ⟨m, hm⟩ : ∃ m, 4 - c.length = m + 1 := ⟨3 - c.length, by omega⟩
  have HM := Lib.hid hm
  clear hm
  have HBAD : Hid (tcOk t y = false → F0 = [] ∧ F1 = false) := fun hb => by
   have := HGO.out
   rw [tcGo_bad hb] at this
   exact ⟨(congrArg Prod.fst this).symm, (congrArg Prod.snd this).symm⟩
  go_wp2_with fail
  refine (C_spec_VerifySignature _ _ t.1 _ y (Ty.rd_below hw tg0) (Ty.rd_below hw hy') s0a sy).mono ?_
  rintro e w2 ⟨rfl, hb2⟩
  clear kT_1_0 fT_1_0 kT_1_1 fT_1_1 kT_1_2 fT_1_2 kT_1_3 fT_1_3 kX_1_0 fX_1_0 kX_1_1 fX_1_1 kX_1_2 fX_1_2 kX_1_3 fX_1_3 kX_1_4 fX_1_4 zT_1 zX_1
  clear q2
  cases q0 : f_VerifySignature t.1 y
  ·have HZ := HBAD.out (by unfold tcOk; rw [q0]; rfl)
   have HZ0 := Lib.hid HZ.1
   have HZ1 := Lib.hid HZ.2
   clear HZ
   have hw2 : Below w.heap.size w w2 := bel_trans hw hb2
   go_wp2
   go_ret2
   rw [HZ0.out, HZ1.out]
   exact ⟨_, _, [], rfl, ow_empty _ _ _, FrI.nil _ _, b_10⟩
  have hT2 := hT.below (hb2) hT.lt
  have hX2 := hX.below (hb2) hX.lt
  have hw2 : Below w.heap.size w w2 := bel_trans hw (hb2)
  obtain ⟨kT_2_0, kT_2_1, kT_2_2, kT_2_3, fT_2_0, fT_2_1, fT_2_2, fT_2_3, zT_2⟩ := bk4 hT2
  obtain ⟨kX_2_0, kX_2_1, kX_2_2, kX_2_3, kX_2_4, fX_2_0, fX_2_1, fX_2_2, fX_2_3, fX_2_4, zX_2⟩ := bk5 hX2
  go_wp2_with fail
  refine (C_spec_Allowed _ _ t.2.1 _ y.1 _ y.2.2.1 (Ty.rd_below hw2 tg1) (Ty.rd_below hw2 yg0) (Ty.rd_below hw2 yg2) s0b syn syk).mono ?_
  rintro e w3 ⟨rfl, hb3⟩
  have hr3 : Below wr.heap.size wr w3 := bel_trans hb2 hb3
  clear kT_2_0 fT_2_0 kT_2_1 fT_2_1 kT_2_2 fT_2_2 kT_2_3 fT_2_3 kX_2_0 fX_2_0 kX_2_1 fX_2_1 kX_2_2 fX_2_2 kX_2_3 fX_2_3 kX_2_4 fX_2_4 zT_2 zX_2
  cases q1 : f_Allowed t.2.1 y.1 y.2.2.1
  ·have HZ := HBAD.out (by unfold tcOk; rw [q1]; simp)
   have HZ0 := Lib.hid HZ.1
   have HZ1 := Lib.hid HZ.2
   clear HZ
   have hw3 : Below w.heap.size w w3 := bel_trans hw hr3
   go_wp2
   go_ret2
   rw [HZ0.out, HZ1.out]
   exact ⟨_, _, [], rfl, ow_empty _ _ _, FrI.nil _ _, b_10⟩
  have HOK := Lib.hid (show tcOk t y = true from by unfold tcOk; rw [q0, q1]; rfl)
  clear q0 q1
  have hT3 := hT.below (hr3) hT.lt
  have hX3 := hX.below (hr3) hX.lt
  have hw3 : Below w.heap.size w w3 := bel_trans hw (hr3)
  obtain ⟨kT_3_0, kT_3_1, kT_3_2, kT_3_3, fT_3_0, fT_3_1, fT_3_2, fT_3_3, zT_3⟩ := bk4 hT3
  obtain ⟨kX_3_0, kX_3_1, kX_3_2, kX_3_3, kX_3_4, fX_3_0, fX_3_1, fX_3_2, fX_3_3, fX_3_4, zX_3⟩ := bk5 hX3
  have hz3 := hr3.size
  go_wp2_with fail
  refine (C_spec_l4Copy _ _ y.2.2.1 (Ty.rd_below hw3 yg2) b_37).mono ?_
  rintro e w4 ⟨cs4, fp4, rfl, how4, hfr4, hb4⟩
  obtain ⟨A4, c4, rfl⟩ := Ty.ow_slv how4
  have hz4 := hb4.size
  clear kT_3_0 fT_3_0 kT_3_1 fT_3_1 kT_3_2 fT_3_2 kT_3_3 fT_3_3 kX_3_0 fX_3_0 kX_3_1 fX_3_1 kX_3_2 fX_3_2 kX_3_3 fX_3_3 kX_3_4 fX_3_4 zT_3 zX_3
  go_wp2_with (at_builtin; go_loud (refine wpList_append_drow (e := .sl .str) rfl _ _ 26 rfl wr WX.heap.size 32 info_Name rfl Tryz.underlying26 _ _ c [y.2.2.1] b_39 b_39 HR.out (bel_trans hr3 b_4) (Src.litE 32 (Ty.ow_bel b_10 how4) (hfr4.mono hz3 b_31) b_27) (by rw [List.length_singleton]; omega) (by rw [List.length_singleton]; unfold maxLen; omega) (by have := hX.lt; have := HBS.out; omega) ?_))
  intro v' w5 hr' hg'
  have hT5 := grow_blk (w0 := wr) (bel_trans hr3 b_4) hg' hT (fun e => by have := (HR.out.block _ e.symm).1; have := HBS.out; omega)
  have hX5 := grow_blk (w0 := wr) (bel_trans hr3 b_4) hg' hX (fun e => by have := (HR.out.block _ e.symm).1; have := HBS.out; omega)
  have hw5 : Below w.heap.size w w5 := grow_bel (bel_trans hw (bel_trans hr3 b_4)) hg' (fun g hg => by have := (HR.out.block g hg).1; have := HBS.out; omega)
  have kN5 : w5.cell? ⟨w4.heap.size, 0, none⟩ = some (.slice A4 (List.length y.2.2.1) c4) := hg'.cell ((World.cell?_alloc_lt _ _ _ (by dsimp only; rw [World.size_alloc]; omega)).trans (cell_new w4 _ _ 0 rfl)) (fun e => by have := (HR.out.block _ e.symm).2; dsimp only at this; omega)
  have zN5 : w4.heap.size < w5.heap.size := by have := hg'.size; (try simp only [World.size_alloc] at this); omega
  have hkn5 : (Ty.sl .str).rd w5 [.slice A4 (List.length y.2.2.1) c4] y.2.2.1 := Ty.ow_rd (Ty.ow_keep (fun b hb => (hg'.block b (by have := Ty.ow_lt how4 b hb; (try simp only [World.size_alloc]); omega) (fun e => by have := (HR.out.block _ e.symm).2; have := (hfr4.2 b hb).1; omega)).trans ((Below.alloc (Below.alloc (Below.refl w4.heap.size w4) (Nat.le_refl _) _) b_31 _).block b (Ty.ow_lt how4 b hb))) how4)
  obtain ⟨A5, c5, hv5⟩ := hr'.form
  subst hv5
  have HR5 := Lib.hid hr'
  clear hr' hg'
  have hl5 : (c ++ [y.2.2.1]).length = c.length + 1 := by rw [List.length_append, List.length_singleton]
  have HL5 := Lib.hid hl5
  clear hl5
  obtain ⟨kT_5_0, kT_5_1, kT_5_2, kT_5_3, fT_5_0, fT_5_1, fT_5_2, fT_5_3, zT_5⟩ := bk4 hT5
  obtain ⟨kX_5_0, kX_5_1, kX_5_2, kX_5_3, kX_5_4, fX_5_0, fX_5_1, fX_5_2, fX_5_3, fX_5_4, zX_5⟩ := bk5 hX5
  go_wp2_with fail
  refine (C_spec_IsAnchor _ _ t _ y.2.2.1 (Ty.rd_below hw5 h1') hkn5 s0 syk).mono ?_
  rintro e w6 ⟨rfl, hb6⟩
  clear kT_5_0 fT_5_0 kT_5_1 fT_5_1 kT_5_2 fT_5_2 kT_5_3 fT_5_3 kX_5_0 fX_5_0 kX_5_1 fX_5_1 kX_5_2 fX_5_2 kX_5_3 fX_5_3 kX_5_4 fX_5_4 zT_5 zX_5
  cases q3 : f_IsAnchor t y.2.2.1
  rotate_left
  ·have HZ : Hid (F0 = c ++ [y.2.2.1] ∧ F1 = true) := by
    have := HGO.out
    rw [HM.out, tcGo_anchor HOK.out q3] at this
    exact ⟨(congrArg Prod.fst this).symm, (congrArg Prod.snd this).symm⟩
   have HR6 := Lib.hid (HR5.out.below hb6)
   have hw6 : Below w.heap.size w w6 := bel_trans hw5 hb6
   obtain ⟨A9, c9, fp9, hv9, how9, hfr9⟩ := HR6.out.own
   injection hv9 with hv9a hv9b hv9c
   subst hv9a; subst hv9c
   go_wp2
   go_ret2
   rw [HZ.out.1, HZ.out.2]
   exact ⟨_, _, fp9, by first | rfl | (rw [show List.length (c ++ [y.2.2.1]) = c.length + 1 from HL5.out]; rfl), how9, hfr9.mono (by have := HBS.out; omega) (Nat.le_refl _), hw6⟩
  have hT6 := hT5.below hb6 hT5.lt
  have hX6 := hX5.below hb6 hX5.lt
  have hw6 : Below w.heap.size w w6 := bel_trans hw5 hb6
  obtain ⟨kT_6_0, kT_6_1, kT_6_2, kT_6_3, fT_6_0, fT_6_1, fT_6_2, fT_6_3, zT_6⟩ := bk4 hT6
  obtain ⟨kX_6_0, kX_6_1, kX_6_2, kX_6_3, kX_6_4, fX_6_0, fX_6_1, fX_6_2, fX_6_3, fX_6_4, zX_6⟩ := bk5 hX6
  have kN6 : w6.cell? ⟨w4.heap.size, 0, none⟩ = some (.slice A4 (List.length y.2.2.1) c4) := (hb6.cell (p := ⟨w4.heap.size, 0, none⟩) zN5).trans kN5
  have zN6 : w4.heap.size < w6.heap.size := Nat.lt_of_lt_of_le zN5 hb6.size
  go_wp2_with fail
  refine (C_spec_FindCertificate _ _ t _ y.2.2.1 now (Ty.rd_below hw6 h1') (Ty.rd_below hb6 hkn5) s0 syk i2).mono ?_
  rintro e w7 ⟨rfl, hb7⟩
  have hb57 : Below w5.heap.size w5 w7 := bel_trans hb6 hb7
  have hw7 : Below w.heap.size w w7 := bel_trans hw6 hb7
  clear kT_6_0 fT_6_0 kT_6_1 fT_6_1 kT_6_2 fT_6_2 kT_6_3 fT_6_3 kX_6_0 fX_6_0 kX_6_1 fX_6_1 kX_6_2 fX_6_2 kX_6_3 fX_6_3 kX_6_4 fX_6_4 zT_6 zX_6
  clear kN6 zN6 kN5 zN5
  rcases find_cases t y.2.2.1 now with hf | ⟨k, hk, hf⟩
  ·have HZ : Hid (F0 = [] ∧ F1 = false) := by
    have := HGO.out
    rw [tcGo_miss q3 hf] at this
    exact ⟨(congrArg Prod.fst this).symm, (congrArg Prod.snd this).symm⟩
   have HZ0 := Lib.hid HZ.out.1
   have HZ1 := Lib.hid HZ.out.2
   clear HZ
   rw [hf]
   clear hf q3
   go_wp2
   go_ret2
   rw [HZ0.out, HZ1.out]
   exact ⟨_, _, [], rfl, ow_empty _ _ _, FrI.nil _ _, b_10⟩
  rw [hf]
  have HNX : Hid (tcGo t now m ((t.2.2.2)[k]) (c ++ [y.2.2.1]) = (F0, F1)) := by
   have := HGO.out
   rwa [HM.out, tcGo_next HOK.out q3 hk hf] at this
  clear hf q3
  have hT7 := hT5.below hb57 hT5.lt
  have hX7 := hX5.below hb57 hX5.lt
  have HR7 := Lib.hid (HR5.out.below hb57)
  obtain ⟨kT_7_0, kT_7_1, kT_7_2, kT_7_3, fT_7_0, fT_7_1, fT_7_2, fT_7_3, zT_7⟩ := bk4 hT7
  obtain ⟨kX_7_0, kX_7_1, kX_7_2, kX_7_3, kX_7_4, fX_7_0, fX_7_1, fX_7_2, fX_7_3, fX_7_4, zX_7⟩ := bk5 hX7
  have i0 : (0 : Int) ≤ (k : Int) := by omega
  have i1 : (k : Int) < (List.length t.2.2.2 : Int) := by omega
  obtain ⟨b, o, dsd, rfl, hld, hcelld, hrdd⟩ := Ty.rd_at tg3 hk
  have hrdd' := hrdd
  obtain ⟨Ad0, cd0, Ad1, cd1, Ad2, cd2, rfl, dg0, dg1, dg2, dg3, dg4⟩ := rd_Data hrdd
  have e0 : w.cell? ⟨b, o + k * 5, none⟩ = some (.slice Ad0 (List.length (t.2.2.2)[k].1) cd0) := by simpa [Ty.sz] using hcelld 0 b_36
  have e1 : w.cell? ⟨b, o + k * 5 + 1, none⟩ = some (.slice Ad1 (List.length (t.2.2.2)[k].2.1) cd1) := by simpa [Ty.sz] using hcelld 1 b_36
  have e2 : w.cell? ⟨b, o + k * 5 + 2, none⟩ = some (.slice Ad2 (List.length (t.2.2.2)[k].2.2.1) cd2) := by simpa [Ty.sz] using hcelld 2 b_36
  have e3 : w.cell? ⟨b, o + k * 5 + 3, none⟩ = some (.int .i64 (t.2.2.2)[k].2.2.2.1) := by simpa [Ty.sz] using hcelld 3 b_36
  have e4 : w.cell? ⟨b, o + k * 5 + 4, none⟩ = some (.int .i64 (t.2.2.2)[k].2.2.2.2) := by simpa [Ty.sz] using hcelld 4 b_36
  have hlb : b < w.heap.size := World.block_lt_of_cell? w _ e0
  have g0 : w7.cell? ⟨b, o + k * 5, none⟩ = some (.slice Ad0 (List.length (t.2.2.2)[k].1) cd0) := (hw7.cell (p := ⟨b, o + k * 5, none⟩) hlb).trans e0
  have g1 : w7.cell? ⟨b, o + k * 5 + 1, none⟩ = some (.slice Ad1 (List.length (t.2.2.2)[k].2.1) cd1) := (hw7.cell (p := ⟨b, o + k * 5 + 1, none⟩) hlb).trans e1
  have g2 : w7.cell? ⟨b, o + k * 5 + 2, none⟩ = some (.slice Ad2 (List.length (t.2.2.2)[k].2.2.1) cd2) := (hw7.cell (p := ⟨b, o + k * 5 + 2, none⟩) hlb).trans e2
  have g3 : w7.cell? ⟨b, o + k * 5 + 3, none⟩ = some (.int .i64 (t.2.2.2)[k].2.2.2.1) := (hw7.cell (p := ⟨b, o + k * 5 + 3, none⟩) hlb).trans e3
  have g4 : w7.cell? ⟨b, o + k * 5 + 4, none⟩ = some (.int .i64 (t.2.2.2)[k].2.2.2.2) := (hw7.cell (p := ⟨b, o + k * 5 + 4, none⟩) hlb).trans e4
  clear hcelld hld e0 e1 e2 e3 e4
  have szk := Ty.bulk_at s0d hk
  have hr7 : DRow (.sl .str) w7 WX.heap.size 32 (.slice A5 (c.length + 1) c5) (c ++ [y.2.2.1]) := by rw [← HL5.out]; exact HR7.out
  have HR7' := Lib.hid hr7
  clear hr7
  generalize (t.2.2.2)[k] = z at *
  go_wp2
  go_roundw
  case rel =>
   refine ⟨z, _, c ++ [y.2.2.1], (((((hT7.far (p := ⟨w.heap.size + 1, 0, none⟩) b_34 (.slice Ad0 (List.length z.1) cd0)).far (p := ⟨w.heap.size + 1, 1, none⟩) b_34 (.slice Ad1 (List.length z.2.1) cd1)).far (p := ⟨w.heap.size + 1, 2, none⟩) b_34 (.slice Ad2 (List.length z.2.2.1) cd2)).far (p := ⟨w.heap.size + 1, 3, none⟩) b_34 (.int .i64 z.2.2.2.1)).far (p := ⟨w.heap.size + 1, 4, none⟩) b_34 (.int .i64 z.2.2.2.2)), (((((hX7.set_ 0 (.slice Ad0 (List.length z.1) cd0)).set_ 1 (.slice Ad1 (List.length z.2.1) cd1)).set_ 2 (.slice Ad2 (List.length z.2.2.1) cd2)).set_ 3 (.int .i64 z.2.2.2.1)).set_ 4 (.int .i64 z.2.2.2.2)), hrdd', szk, (((((HR7'.out.far (p := ⟨w.heap.size + 1, 0, none⟩) (by dsimp only; have := HBS.out; omega) (.slice Ad0 (List.length z.1) cd0)).far (p := ⟨w.heap.size + 1, 1, none⟩) (by dsimp only; have := HBS.out; omega) (.slice Ad1 (List.length z.2.1) cd1)).far (p := ⟨w.heap.size + 1, 2, none⟩) (by dsimp only; have := HBS.out; omega) (.slice Ad2 (List.length z.2.2.1) cd2)).far (p := ⟨w.heap.size + 1, 3, none⟩) (by dsimp only; have := HBS.out; omega) (.int .i64 z.2.2.2.1)).far (p := ⟨w.heap.size + 1, 4, none⟩) (by dsimp only; have := HBS.out; omega) (.int .i64 z.2.2.2.2)), by rw [HL5.out]; omega, by rw [HL5.out, show 4 - (c.length + 1) = m from by have := HM.out; omega]; exact HNX.out, (bel_set (bel_set (bel_set (bel_set (bel_set hw7 (p := ⟨w.heap.size + 1, 0, none⟩) b_34 (.slice Ad0 (List.length z.1) cd0)) (p := ⟨w.heap.size + 1, 1, none⟩) b_34 (.slice Ad1 (List.length z.2.1) cd1)) (p := ⟨w.heap.size + 1, 2, none⟩) b_34 (.slice Ad2 (List.length z.2.2.1) cd2)) (p := ⟨w.heap.size + 1, 3, none⟩) b_34 (.int .i64 z.2.2.2.1)) (p := ⟨w.heap.size + 1, 4, none⟩) b_34 (.int .i64 z.2.2.2.2))⟩
  case measure => show 5 - (c.length + 1) < 5 - c.length; have := HM.out; omega
end Go.Proofs.YtldgbnlcnlfmeaaGreat
