/- Texts of this claim, merged by a program: Itr Tru. -/
import Derived.Test.YtldgbnlcnlfmeaaGreatQtP
import Derived.Test.YtldgbnlcnlfmeaaGreatQt14
import Derived.Test.YtldgbnlcnlfmeaaGreatQt6
import Derived.Test.YtldgbnlcnlfmeaaGreatQt5
import Derived.Test.YtldgbnlcnlfmeaaGreatQt9
import Derived.Test.YtldgbnlcnlfmeaaGreatQt10
import Derived.Test.YtldgbnlcnlfmeaaGreatQt3
import Derived.Deep.RegionHeld3
import Derived.Deep.DeepCutAuto
namespace Go.Proofs.YtldgbnlcnlfmeaaGreat
open Go.RowKit
set_option linter.unusedVariables false
set_option linter.unusedSimpArgs false
def f_IsTrusted (t : Ty.D tTrustPolicy) (x : Ty.D tData) (now : Int) : Bool := f1_TrustChain t x now && f_ValidData x
set_option maxRecDepth 100000 in
set_option maxHeartbeats 1000000 in
theorem C_impl_IsTrusted (w : World) (cs1 : List Value) (t : Ty.D tTrustPolicy) (cs2 : List Value) (x : Ty.D tData) (now : Int) (h1 : Ty.rd w tTrustPolicy cs1 t) (h2 : Ty.rd w tData cs2 x) (s0 : Ty.bulk tTrustPolicy t ≤ 1048576) (s1 : Ty.bulk tData x ≤ 1048576) (i2 : -9223372036854775808 ≤ now ∧ now ≤ 9223372036854775807) :
  Calls Tryz.prog 17 #[.agg cs1.toArray, .agg cs2.toArray, .int .i64 now] w (RetB w (f_IsTrusted t x now)) := by
 have h1' := h1
 have h2' := h2
 obtain ⟨At0, ct0, At1, ct1, At2, ct2, At3, ct3, rfl, tg0, tg1, tg2, tg3⟩ := rd_TrustPolicy h1
 obtain ⟨Ax0, cx0, Ax1, cx1, Ax2, cx2, rfl, xg0, xg1, xg2, xg3, xg4⟩ := rd_Data h2
 have HF := Lib.hid (show f_IsTrusted t x now = (f1_TrustChain t x now && f_ValidData x) from rfl)
 generalize f_IsTrusted t x now = F at HF ⊢
 have kb0_0 : ((w.alloc (.cells #[.slice At0 (List.length t.1) ct0, .slice At1 (List.length t.2.1) ct1, .slice At2 (List.length t.2.2.1) ct2, .slice At3 (List.length t.2.2.2) ct3] 29)).alloc (.cells #[.slice Ax0 (List.length x.1) cx0, .slice Ax1 (List.length x.2.1) cx1, .slice Ax2 (List.length x.2.2.1) cx2, .int .i64 x.2.2.2.1, .int .i64 x.2.2.2.2] 34)).cell? ⟨w.heap.size, 0, none⟩ = some (.slice At0 (List.length t.1) ct0) := ((World.cell?_alloc_lt _ _ _ b_30).trans (cell_new w _ _ 0 b_27))
 have kb0_1 : ((w.alloc (.cells #[.slice At0 (List.length t.1) ct0, .slice At1 (List.length t.2.1) ct1, .slice At2 (List.length t.2.2.1) ct2, .slice At3 (List.length t.2.2.2) ct3] 29)).alloc (.cells #[.slice Ax0 (List.length x.1) cx0, .slice Ax1 (List.length x.2.1) cx1, .slice Ax2 (List.length x.2.2.1) cx2, .int .i64 x.2.2.2.1, .int .i64 x.2.2.2.2] 34)).cell? ⟨w.heap.size, 1, none⟩ = some (.slice At1 (List.length t.2.1) ct1) := ((World.cell?_alloc_lt _ _ _ b_30).trans (cell_new w _ _ 1 b_27))
 have kb0_2 : ((w.alloc (.cells #[.slice At0 (List.length t.1) ct0, .slice At1 (List.length t.2.1) ct1, .slice At2 (List.length t.2.2.1) ct2, .slice At3 (List.length t.2.2.2) ct3] 29)).alloc (.cells #[.slice Ax0 (List.length x.1) cx0, .slice Ax1 (List.length x.2.1) cx1, .slice Ax2 (List.length x.2.2.1) cx2, .int .i64 x.2.2.2.1, .int .i64 x.2.2.2.2] 34)).cell? ⟨w.heap.size, 2, none⟩ = some (.slice At2 (List.length t.2.2.1) ct2) := ((World.cell?_alloc_lt _ _ _ b_30).trans (cell_new w _ _ 2 b_27))
 have kb0_3 : ((w.alloc (.cells #[.slice At0 (List.length t.1) ct0, .slice At1 (List.length t.2.1) ct1, .slice At2 (List.length t.2.2.1) ct2, .slice At3 (List.length t.2.2.2) ct3] 29)).alloc (.cells #[.slice Ax0 (List.length x.1) cx0, .slice Ax1 (List.length x.2.1) cx1, .slice Ax2 (List.length x.2.2.1) cx2, .int .i64 x.2.2.2.1, .int .i64 x.2.2.2.2] 34)).cell? ⟨w.heap.size, 3, none⟩ = some (.slice At3 (List.length t.2.2.2) ct3) := ((World.cell?_alloc_lt _ _ _ b_30).trans (cell_new w _ _ 3 b_27))
 have kb1_0 : ((w.alloc (.cells #[.slice At0 (List.length t.1) ct0, .slice At1 (List.length t.2.1) ct1, .slice At2 (List.length t.2.2.1) ct2, .slice At3 (List.length t.2.2.2) ct3] 29)).alloc (.cells #[.slice Ax0 (List.length x.1) cx0, .slice Ax1 (List.length x.2.1) cx1, .slice Ax2 (List.length x.2.2.1) cx2, .int .i64 x.2.2.2.1, .int .i64 x.2.2.2.2] 34)).cell? ⟨w.heap.size + 1, 0, none⟩ = some (.slice Ax0 (List.length x.1) cx0) := (cell_new (w.alloc (.cells #[.slice At0 (List.length t.1) ct0, .slice At1 (List.length t.2.1) ct1, .slice At2 (List.length t.2.2.1) ct2, .slice At3 (List.length t.2.2.2) ct3] 29)) _ _ 0 b_27)
 have kb1_1 : ((w.alloc (.cells #[.slice At0 (List.length t.1) ct0, .slice At1 (List.length t.2.1) ct1, .slice At2 (List.length t.2.2.1) ct2, .slice At3 (List.length t.2.2.2) ct3] 29)).alloc (.cells #[.slice Ax0 (List.length x.1) cx0, .slice Ax1 (List.length x.2.1) cx1, .slice Ax2 (List.length x.2.2.1) cx2, .int .i64 x.2.2.2.1, .int .i64 x.2.2.2.2] 34)).cell? ⟨w.heap.size + 1, 1, none⟩ = some (.slice Ax1 (List.length x.2.1) cx1) := (cell_new (w.alloc (.cells #[.slice At0 (List.length t.1) ct0, .slice At1 (List.length t.2.1) ct1, .slice At2 (List.length t.2.2.1) ct2, .slice At3 (List.length t.2.2.2) ct3] 29)) _ _ 1 b_27)
 have kb1_2 : ((w.alloc (.cells #[.slice At0 (List.length t.1) ct0, .slice At1 (List.length t.2.1) ct1, .slice At2 (List.length t.2.2.1) ct2, .slice At3 (List.length t.2.2.2) ct3] 29)).alloc (.cells #[.slice Ax0 (List.length x.1) cx0, .slice Ax1 (List.length x.2.1) cx1, .slice Ax2 (List.length x.2.2.1) cx2, .int .i64 x.2.2.2.1, .int .i64 x.2.2.2.2] 34)).cell? ⟨w.heap.size + 1, 2, none⟩ = some (.slice Ax2 (List.length x.2.2.1) cx2) := (cell_new (w.alloc (.cells #[.slice At0 (List.length t.1) ct0, .slice At1 (List.length t.2.1) ct1, .slice At2 (List.length t.2.2.1) ct2, .slice At3 (List.length t.2.2.2) ct3] 29)) _ _ 2 b_27)
 have kb1_3 : ((w.alloc (.cells #[.slice At0 (List.length t.1) ct0, .slice At1 (List.length t.2.1) ct1, .slice At2 (List.length t.2.2.1) ct2, .slice At3 (List.length t.2.2.2) ct3] 29)).alloc (.cells #[.slice Ax0 (List.length x.1) cx0, .slice Ax1 (List.length x.2.1) cx1, .slice Ax2 (List.length x.2.2.1) cx2, .int .i64 x.2.2.2.1, .int .i64 x.2.2.2.2] 34)).cell? ⟨w.heap.size + 1, 3, none⟩ = some (.int .i64 x.2.2.2.1) := (cell_new (w.alloc (.cells #[.slice At0 (List.length t.1) ct0, .slice At1 (List.length t.2.1) ct1, .slice At2 (List.length t.2.2.1) ct2, .slice At3 (List.length t.2.2.2) ct3] 29)) _ _ 3 b_27)
 have kb1_4 : ((w.alloc (.cells #[.slice At0 (List.length t.1) ct0, .slice At1 (List.length t.2.1) ct1, .slice At2 (List.length t.2.2.1) ct2, .slice At3 (List.length t.2.2.2) ct3] 29)).alloc (.cells #[.slice Ax0 (List.length x.1) cx0, .slice Ax1 (List.length x.2.1) cx1, .slice Ax2 (List.length x.2.2.1) cx2, .int .i64 x.2.2.2.1, .int .i64 x.2.2.2.2] 34)).cell? ⟨w.heap.size + 1, 4, none⟩ = some (.int .i64 x.2.2.2.2) := (cell_new (w.alloc (.cells #[.slice At0 (List.length t.1) ct0, .slice At1 (List.length t.2.1) ct1, .slice At2 (List.length t.2.2.1) ct2, .slice At3 (List.length t.2.2.2) ct3] 29)) _ _ 4 b_27)
 have hvb : Below w.heap.size w ((w.alloc (.cells #[.slice At0 (List.length t.1) ct0, .slice At1 (List.length t.2.1) ct1, .slice At2 (List.length t.2.2.1) ct2, .slice At3 (List.length t.2.2.2) ct3] 29)).alloc (.cells #[.slice Ax0 (List.length x.1) cx0, .slice Ax1 (List.length x.2.1) cx1, .slice Ax2 (List.length x.2.2.1) cx2, .int .i64 x.2.2.2.1, .int .i64 x.2.2.2.2] 34)) := b_10
 have zb0 := Lib.hid (show ((w.alloc (.cells #[.slice At0 (List.length t.1) ct0, .slice At1 (List.length t.2.1) ct1, .slice At2 (List.length t.2.2.1) ct2, .slice At3 (List.length t.2.2.2) ct3] 29)).alloc (.cells #[.slice Ax0 (List.length x.1) cx0, .slice Ax1 (List.length x.2.1) cx1, .slice Ax2 (List.length x.2.2.1) cx2, .int .i64 x.2.2.2.1, .int .i64 x.2.2.2.2] 34)).heap.size = w.heap.size + 1 + 1 from by simp only [World.size_alloc])
 have zb : w.heap.size + 1 < ((w.alloc (.cells #[.slice At0 (List.length t.1) ct0, .slice At1 (List.length t.2.1) ct1, .slice At2 (List.length t.2.2.1) ct2, .slice At3 (List.length t.2.2.2) ct3] 29)).alloc (.cells #[.slice Ax0 (List.length x.1) cx0, .slice Ax1 (List.length x.2.1) cx1, .slice Ax2 (List.length x.2.2.1) cx2, .int .i64 x.2.2.2.1, .int .i64 x.2.2.2.2] 34)).heap.size := by simp only [World.size_alloc]; omega
 go_enter Tryz.func17, Tryz.ntmps17
 go_wp2_with fail
 generalize ((w.alloc (.cells #[.slice At0 (List.length t.1) ct0, .slice At1 (List.length t.2.1) ct1, .slice At2 (List.length t.2.2.1) ct2, .slice At3 (List.length t.2.2.2) ct3] 29)).alloc (.cells #[.slice Ax0 (List.length x.1) cx0, .slice Ax1 (List.length x.2.1) cx1, .slice Ax2 (List.length x.2.2.1) cx2, .int .i64 x.2.2.2.1, .int .i64 x.2.2.2.2] 34)) = WX at kb0_0 kb0_1 kb0_2 kb0_3 kb1_0 kb1_1 kb1_2 kb1_3 kb1_4 hvb zb zb0 ⊢
 have HC : Hid (∀ V, Below WX.heap.size WX V → V.cell? ⟨w.heap.size, 0, none⟩ = some (.slice At0 (List.length t.1) ct0) ∧ V.cell? ⟨w.heap.size, 1, none⟩ = some (.slice At1 (List.length t.2.1) ct1) ∧ V.cell? ⟨w.heap.size, 2, none⟩ = some (.slice At2 (List.length t.2.2.1) ct2) ∧ V.cell? ⟨w.heap.size, 3, none⟩ = some (.slice At3 (List.length t.2.2.2) ct3) ∧ V.cell? ⟨w.heap.size + 1, 0, none⟩ = some (.slice Ax0 (List.length x.1) cx0) ∧ V.cell? ⟨w.heap.size + 1, 1, none⟩ = some (.slice Ax1 (List.length x.2.1) cx1) ∧ V.cell? ⟨w.heap.size + 1, 2, none⟩ = some (.slice Ax2 (List.length x.2.2.1) cx2) ∧ V.cell? ⟨w.heap.size + 1, 3, none⟩ = some (.int .i64 x.2.2.2.1) ∧ V.cell? ⟨w.heap.size + 1, 4, none⟩ = some (.int .i64 x.2.2.2.2)) := fun V hW => ⟨(hW.cell (p := ⟨w.heap.size, 0, none⟩) b_34).trans kb0_0, (hW.cell (p := ⟨w.heap.size, 1, none⟩) b_34).trans kb0_1, (hW.cell (p := ⟨w.heap.size, 2, none⟩) b_34).trans kb0_2, (hW.cell (p := ⟨w.heap.size, 3, none⟩) b_34).trans kb0_3, (hW.cell (p := ⟨w.heap.size + 1, 0, none⟩) b_34).trans kb1_0, (hW.cell (p := ⟨w.heap.size + 1, 1, none⟩) b_34).trans kb1_1, (hW.cell (p := ⟨w.heap.size + 1, 2, none⟩) b_34).trans kb1_2, (hW.cell (p := ⟨w.heap.size + 1, 3, none⟩) b_34).trans kb1_3, (hW.cell (p := ⟨w.heap.size + 1, 4, none⟩) b_34).trans kb1_4⟩
 clear kb0_0 kb0_1 kb0_2 kb0_3 kb1_0 kb1_1 kb1_2 kb1_3 kb1_4
 refine (C_impl_TrustChain _ _ t _ x now (Ty.rd_below hvb h1') (Ty.rd_below hvb h2') s0 s1 i2).mono ?_
 rintro e w1 ⟨A1, c1, fp1, rfl, how1, hfr1, hb1⟩
 obtain ⟨j0, j1, j2, j3, j4, j5, j6, j7, j8⟩ := HC.out _ (hb1)
 have zw0 : w.heap.size < w1.heap.size := by have := hb1.size; omega
 have zw1 : w.heap.size + 1 < w1.heap.size := by have := hb1.size; omega
 cases q0 : f1_TrustChain t x now
 ·have HZ := Lib.hid (show F = false from by rw [HF.out, q0]; rfl)
  go_wp2
  go_ret
  exact ⟨ret_bool (by rw [HZ.out]), bel_trans hvb hb1⟩
 have HZ := Lib.hid (show F = f_ValidData x from by rw [HF.out, q0]; rfl)
 go_wp2_with fail
 refine (C_impl_ValidData _ _ x (Ty.rd_below (bel_trans hvb hb1) h2') s1).mono ?_
 rintro e w2 ⟨rfl, hb2⟩
 go_wp2
 go_ret
 exact ⟨ret_bool (by rw [HZ.out]), bel_trans hvb (bel_trans hb1 hb2)⟩
set_option maxRecDepth 100000 in
set_option maxHeartbeats 1000000 in
theorem C_spec_IsTrusted (w : World) (cs1 : List Value) (t : Ty.D tTrustPolicy) (cs2 : List Value) (x : Ty.D tData) (now : Int) (h1 : Ty.rd w tTrustPolicy cs1 t) (h2 : Ty.rd w tData cs2 x) (s0 : Ty.bulk tTrustPolicy t ≤ 1048576) (s1 : Ty.bulk tData x ≤ 1048576) (i2 : -9223372036854775808 ≤ now ∧ now ≤ 9223372036854775807) :
  Calls Tryz.prog 18 #[.agg cs1.toArray, .agg cs2.toArray, .int .i64 now] w (RetB w (f_IsTrusted t x now)) := by
 have h1' := h1
 have h2' := h2
 obtain ⟨At0, ct0, At1, ct1, At2, ct2, At3, ct3, rfl, tg0, tg1, tg2, tg3⟩ := rd_TrustPolicy h1
 obtain ⟨Ax0, cx0, Ax1, cx1, Ax2, cx2, rfl, xg0, xg1, xg2, xg3, xg4⟩ := rd_Data h2
 have HF := Lib.hid (show f_IsTrusted t x now = (f1_TrustChain t x now && f_ValidData x) from rfl)
 generalize f_IsTrusted t x now = F at HF ⊢
 have kb0_0 : ((w.alloc (.cells #[.slice At0 (List.length t.1) ct0, .slice At1 (List.length t.2.1) ct1, .slice At2 (List.length t.2.2.1) ct2, .slice At3 (List.length t.2.2.2) ct3] 29)).alloc (.cells #[.slice Ax0 (List.length x.1) cx0, .slice Ax1 (List.length x.2.1) cx1, .slice Ax2 (List.length x.2.2.1) cx2, .int .i64 x.2.2.2.1, .int .i64 x.2.2.2.2] 34)).cell? ⟨w.heap.size, 0, none⟩ = some (.slice At0 (List.length t.1) ct0) := ((World.cell?_alloc_lt _ _ _ b_30).trans (cell_new w _ _ 0 b_27))
 have kb0_1 : ((w.alloc (.cells #[.slice At0 (List.length t.1) ct0, .slice At1 (List.length t.2.1) ct1, .slice At2 (List.length t.2.2.1) ct2, .slice At3 (List.length t.2.2.2) ct3] 29)).alloc (.cells #[.slice Ax0 (List.length x.1) cx0, .slice Ax1 (List.length x.2.1) cx1, .slice Ax2 (List.length x.2.2.1) cx2, .int .i64 x.2.2.2.1, .int .i64 x.2.2.2.2] 34)).cell? ⟨w.heap.size, 1, none⟩ = some (.slice At1 (List.length t.2.1) ct1) := ((World.cell?_alloc_lt _ _ _ b_30).trans (cell_new w _ _ 1 b_27))
 have kb0_2 : ((w.alloc (.cells #[.slice At0 (List.length t.1) ct0, .slice At1 (List.length t.2.1) ct1, .slice At2 (List.length t.2.2.1) ct2, .slice At3 (List.length t.2.2.2) ct3] 29)).alloc (.cells #[.slice Ax0 (List.length x.1) cx0, .slice Ax1 (List.length x.2.1) cx1, .slice Ax2 (List.length x.2.2.1) cx2, .int .i64 x.2.2.2.1, .int .i64 x.2.2.2.2] 34)).cell? ⟨w.heap.size, 2, none⟩ = some (.slice At2 (List.length t.2.2.1) ct2) := ((World.cell?_alloc_lt _ _ _ b_30).trans (cell_new w _ _ 2 b_27))
 have kb0_3 : ((w.alloc (.cells #[.slice At0 (List.length t.1) ct0, .slice At1 (List.length t.2.1) ct1, .slice At2 (List.length t.2.2.1) ct2, .slice At3 (List.length t.2.2.2) ct3] 29)).alloc (.cells #[.slice Ax0 (List.length x.1) cx0, .slice Ax1 (List.length x.2.1) cx1, .slice Ax2 (List.length x.2.2.1) cx2, .int .i64 x.2.2.2.1, .int .i64 x.2.2.2.2] 34)).cell? ⟨w.heap.size, 3, none⟩ = some (.slice At3 (List.length t.2.2.2) ct3) := ((World.cell?_alloc_lt _ _ _ b_30).trans (cell_new w _ _ 3 b_27))
 have kb1_0 : ((w.alloc (.cells #[.slice At0 (List.length t.1) ct0, .slice At1 (List.length t.2.1) ct1, .slice At2 (List.length t.2.2.1) ct2, .slice At3 (List.length t.2.2.2) ct3] 29)).alloc (.cells #[.slice Ax0 (List.length x.1) cx0, .slice Ax1 (List.length x.2.1) cx1, .slice Ax2 (List.length x.2.2.1) cx2, .int .i64 x.2.2.2.1, .int .i64 x.2.2.2.2] 34)).cell? ⟨w.heap.size + 1, 0, none⟩ = some (.slice Ax0 (List.length x.1) cx0) := (cell_new (w.alloc (.cells #[.slice At0 (List.length t.1) ct0, .slice At1 (List.length t.2.1) ct1, .slice At2 (List.length t.2.2.1) ct2, .slice At3 (List.length t.2.2.2) ct3] 29)) _ _ 0 b_27)
 have kb1_1 : ((w.alloc (.cells #[.slice At0 (List.length t.1) ct0, .slice At1 (List.length t.2.1) ct1, .slice At2 (List.length t.2.2.1) ct2, .slice At3 (List.length t.2.2.2) ct3] 29)).alloc (.cells #[.slice Ax0 (List.length x.1) cx0, .slice Ax1 (List.length x.2.1) cx1, .slice Ax2 (List.length x.2.2.1) cx2, .int .i64 x.2.2.2.1, .int .i64 x.2.2.2.2] 34)).cell? ⟨w.heap.size + 1, 1, none⟩ = some (.slice Ax1 (List.length x.2.1) cx1) := (cell_new (w.alloc (.cells #[.slice At0 (List.length t.1) ct0, .slice At1 (List.length t.2.1) ct1, .slice At2 (List.length t.2.2.1) ct2, .slice At3 (List.length t.2.2.2) ct3] 29)) _ _ 1 b_27)
 have kb1_2 : ((w.alloc (.cells #[.slice At0 (List.length t.1) ct0, .slice At1 (List.length t.2.1) ct1, .slice At2 (List.length t.2.2.1) ct2, .slice At3 (List.length t.2.2.2) ct3] 29)).alloc (.cells #[.slice Ax0 (List.length x.1) cx0, .slice Ax1 (List.length x.2.1) cx1, .slice Ax2 (List.length x.2.2.1) cx2, .int .i64 x.2.2.2.1, .int .i64 x.2.2.2.2] 34)).cell? ⟨w.heap.size + 1, 2, none⟩ = some (.slice Ax2 (List.length x.2.2.1) cx2) := (cell_new (w.alloc (.cells #[.slice At0 (List.length t.1) ct0, .slice At1 (List.length t.2.1) ct1, .slice At2 (List.length t.2.2.1) ct2, .slice At3 (List.length t.2.2.2) ct3] 29)) _ _ 2 b_27)
 have kb1_3 : ((w.alloc (.cells #[.slice At0 (List.length t.1) ct0, .slice At1 (List.length t.2.1) ct1, .slice At2 (List.length t.2.2.1) ct2, .slice At3 (List.length t.2.2.2) ct3] 29)).alloc (.cells #[.slice Ax0 (List.length x.1) cx0, .slice Ax1 (List.length x.2.1) cx1, .slice Ax2 (List.length x.2.2.1) cx2, .int .i64 x.2.2.2.1, .int .i64 x.2.2.2.2] 34)).cell? ⟨w.heap.size + 1, 3, none⟩ = some (.int .i64 x.2.2.2.1) := (cell_new (w.alloc (.cells #[.slice At0 (List.length t.1) ct0, .slice At1 (List.length t.2.1) ct1, .slice At2 (List.length t.2.2.1) ct2, .slice At3 (List.length t.2.2.2) ct3] 29)) _ _ 3 b_27)
 have kb1_4 : ((w.alloc (.cells #[.slice At0 (List.length t.1) ct0, .slice At1 (List.length t.2.1) ct1, .slice At2 (List.length t.2.2.1) ct2, .slice At3 (List.length t.2.2.2) ct3] 29)).alloc (.cells #[.slice Ax0 (List.length x.1) cx0, .slice Ax1 (List.length x.2.1) cx1, .slice Ax2 (List.length x.2.2.1) cx2, .int .i64 x.2.2.2.1, .int .i64 x.2.2.2.2] 34)).cell? ⟨w.heap.size + 1, 4, none⟩ = some (.int .i64 x.2.2.2.2) := (cell_new (w.alloc (.cells #[.slice At0 (List.length t.1) ct0, .slice At1 (List.length t.2.1) ct1, .slice At2 (List.length t.2.2.1) ct2, .slice At3 (List.length t.2.2.2) ct3] 29)) _ _ 4 b_27)
 have hvb : Below w.heap.size w ((w.alloc (.cells #[.slice At0 (List.length t.1) ct0, .slice At1 (List.length t.2.1) ct1, .slice At2 (List.length t.2.2.1) ct2, .slice At3 (List.length t.2.2.2) ct3] 29)).alloc (.cells #[.slice Ax0 (List.length x.1) cx0, .slice Ax1 (List.length x.2.1) cx1, .slice Ax2 (List.length x.2.2.1) cx2, .int .i64 x.2.2.2.1, .int .i64 x.2.2.2.2] 34)) := b_10
 have zb0 := Lib.hid (show ((w.alloc (.cells #[.slice At0 (List.length t.1) ct0, .slice At1 (List.length t.2.1) ct1, .slice At2 (List.length t.2.2.1) ct2, .slice At3 (List.length t.2.2.2) ct3] 29)).alloc (.cells #[.slice Ax0 (List.length x.1) cx0, .slice Ax1 (List.length x.2.1) cx1, .slice Ax2 (List.length x.2.2.1) cx2, .int .i64 x.2.2.2.1, .int .i64 x.2.2.2.2] 34)).heap.size = w.heap.size + 1 + 1 from by simp only [World.size_alloc])
 have zb : w.heap.size + 1 < ((w.alloc (.cells #[.slice At0 (List.length t.1) ct0, .slice At1 (List.length t.2.1) ct1, .slice At2 (List.length t.2.2.1) ct2, .slice At3 (List.length t.2.2.2) ct3] 29)).alloc (.cells #[.slice Ax0 (List.length x.1) cx0, .slice Ax1 (List.length x.2.1) cx1, .slice Ax2 (List.length x.2.2.1) cx2, .int .i64 x.2.2.2.1, .int .i64 x.2.2.2.2] 34)).heap.size := by simp only [World.size_alloc]; omega
 go_enter Tryz.func18, Tryz.ntmps18
 go_wp2_with fail
 generalize ((w.alloc (.cells #[.slice At0 (List.length t.1) ct0, .slice At1 (List.length t.2.1) ct1, .slice At2 (List.length t.2.2.1) ct2, .slice At3 (List.length t.2.2.2) ct3] 29)).alloc (.cells #[.slice Ax0 (List.length x.1) cx0, .slice Ax1 (List.length x.2.1) cx1, .slice Ax2 (List.length x.2.2.1) cx2, .int .i64 x.2.2.2.1, .int .i64 x.2.2.2.2] 34)) = WX at kb0_0 kb0_1 kb0_2 kb0_3 kb1_0 kb1_1 kb1_2 kb1_3 kb1_4 hvb zb zb0 ⊢
 have HC : Hid (∀ V, Below WX.heap.size WX V → V.cell? ⟨w.heap.size, 0, none⟩ = some (.slice At0 (List.length t.1) ct0) ∧ V.cell? ⟨w.heap.size, 1, none⟩ = some (.slice At1 (List.length t.2.1) ct1) ∧ V.cell? ⟨w.heap.size, 2, none⟩ = some (.slice At2 (List.length t.2.2.1) ct2) ∧ V.cell? ⟨w.heap.size, 3, none⟩ = some (.slice At3 (List.length t.2.2.2) ct3) ∧ V.cell? ⟨w.heap.size + 1, 0, none⟩ = some (.slice Ax0 (List.length x.1) cx0) ∧ V.cell? ⟨w.heap.size + 1, 1, none⟩ = some (.slice Ax1 (List.length x.2.1) cx1) ∧ V.cell? ⟨w.heap.size + 1, 2, none⟩ = some (.slice Ax2 (List.length x.2.2.1) cx2) ∧ V.cell? ⟨w.heap.size + 1, 3, none⟩ = some (.int .i64 x.2.2.2.1) ∧ V.cell? ⟨w.heap.size + 1, 4, none⟩ = some (.int .i64 x.2.2.2.2)) := fun V hW => ⟨(hW.cell (p := ⟨w.heap.size, 0, none⟩) b_34).trans kb0_0, (hW.cell (p := ⟨w.heap.size, 1, none⟩) b_34).trans kb0_1, (hW.cell (p := ⟨w.heap.size, 2, none⟩) b_34).trans kb0_2, (hW.cell (p := ⟨w.heap.size, 3, none⟩) b_34).trans kb0_3, (hW.cell (p := ⟨w.heap.size + 1, 0, none⟩) b_34).trans kb1_0, (hW.cell (p := ⟨w.heap.size + 1, 1, none⟩) b_34).trans kb1_1, (hW.cell (p := ⟨w.heap.size + 1, 2, none⟩) b_34).trans kb1_2, (hW.cell (p := ⟨w.heap.size + 1, 3, none⟩) b_34).trans kb1_3, (hW.cell (p := ⟨w.heap.size + 1, 4, none⟩) b_34).trans kb1_4⟩
 clear kb0_0 kb0_1 kb0_2 kb0_3 kb1_0 kb1_1 kb1_2 kb1_3 kb1_4
 refine (C_spec_TrustChain _ _ t _ x now (Ty.rd_below hvb h1') (Ty.rd_below hvb h2') s0 s1 i2).mono ?_
 rintro e w1 ⟨A1, c1, fp1, rfl, how1, hfr1, hb1⟩
 obtain ⟨j0, j1, j2, j3, j4, j5, j6, j7, j8⟩ := HC.out _ (hb1)
 have zw0 : w.heap.size < w1.heap.size := by have := hb1.size; omega
 have zw1 : w.heap.size + 1 < w1.heap.size := by have := hb1.size; omega
 go_wp2_with fail
 refine (C_spec_ValidData _ _ x (Ty.rd_below (bel_trans hvb hb1) h2') s1).mono ?_
 rintro e w2 ⟨rfl, hb2⟩
 cases q0 : f_ValidData x
 ·have HZ := Lib.hid (show F = false from by rw [HF.out, q0]; simp)
  go_wp2
  go_ret
  exact ⟨ret_bool (by rw [HZ.out]), bel_trans hvb (bel_trans hb1 hb2)⟩
 ·have HZ := Lib.hid (show F = f1_TrustChain t x now from by rw [HF.out, q0]; simp)
  go_wp2
  go_ret
  exact ⟨ret_bool (by rw [HZ.out]), bel_trans hvb (bel_trans hb1 hb2)⟩
theorem FrI.consH {lo g hi : Nat} {f : List Nat} (h : FrI lo g f) (h1 : lo ≤ g) (h2 : g < hi) : FrI lo hi (g :: f) :=
 ⟨List.nodup_cons.2 ⟨fun hm => Nat.lt_irrefl _ (h.2 g hm).2, h.1⟩, fun b hb => by
  rcases List.mem_cons.1 hb with rfl | hb
  ·exact ⟨h1, h2⟩
  ·have := h.2 b hb; omega⟩
theorem ow_Key_mkT {w : World} {k : Ty.D tKey} {v : Value} {f : List Nat} (h : (Ty.sl .str).ow w [v] k.1 f) (b : -9223372036854775808 ≤ k.2 ∧ k.2 ≤ 9223372036854775807) : tKey.ow w [v, .int .i64 k.2] k f :=
 ⟨[_], [_], f, [], rfl, (List.append_nil _).symm, h, ⟨rfl, b⟩, rfl⟩
theorem two_cells {a b : Value} {cur : Array Value} {m : Nat} (h0 : cur[m]? = some a) (h1 : cur[m + 1]? = some b) : ∀ j, j < 2 → cur[m + j]? = [a, b][j]? := by
 intro j hj
 rcases j with _ | _ | j
 ·exact h0
 ·exact h1
 ·omega
theorem ow_keys4 {w : World} {g : Nat} {te : TypeId} {a1 b1 a2 b2 a3 b3 a4 b4 : Value} {x1 x2 x3 x4 : Ty.D tKey} {f1 f2 f3 f4 : List Nat} (hb : Blk w g te #[a1, b1, a2, b2, a3, b3, a4, b4]) (h1 : tKey.ow w [a1, b1] x1 f1) (h2 : tKey.ow w [a2, b2] x2 f2) (h3 : tKey.ow w [a3, b3] x3 f3) (h4 : tKey.ow w [a4, b4] x4 f4) :
  (Ty.sl tKey).ow w [.slice (some ⟨g, 0, none⟩) 4 4] [x1, x2, x3, x4] (g :: (f1 ++ (f2 ++ (f3 ++ f4)))) := by
 have := Ty.ow_mk (w := w) (e := tKey) (g := g) (o := 0) (c := 4) (t := te) (xs := [x1, x2, x3, x4]) (fun i => match i with | 0 => f1 | 1 => f2 | 2 => f3 | _ => f4) hb b_38 (by unfold maxLen; omega) b_38 (fun i hi => by
  rcases i with _ | _ | _ | _ | i
  ·exact ⟨[a1, b1], rfl, two_cells (a := a1) (b := b1) rfl rfl, h1⟩
  ·exact ⟨[a2, b2], rfl, two_cells (a := a2) (b := b2) rfl rfl, h2⟩
  ·exact ⟨[a3, b3], rfl, two_cells (a := a3) (b := b3) rfl rfl, h3⟩
  ·exact ⟨[a4, b4], rfl, two_cells (a := a4) (b := b4) rfl rfl, h4⟩
  ·exact absurd hi b_38)
 simpa [List.range_succ] using this
theorem ow_lit1 {w : World} {e : Ty} {g : Nat} {te : TypeId} {ds : List Value} {x : e.D} {f : List Nat} (hb : Blk w g te ds.toArray) (h : e.ow w ds x f) : (Ty.sl e).ow w [.slice (some ⟨g, 0, none⟩) 1 1] [x] (g :: f) := by
 have := Ty.ow_mk (w := w) (e := e) (g := g) (o := 0) (c := 1) (t := te) (xs := [x]) (fun _ => f) hb b_38 (by unfold maxLen; omega) b_38 (fun i hi => by
  obtain rfl : i = 0 := by simpa using hi
  exact ⟨ds, Ty.ow_len h, fun j hj => by simp, h⟩)
 simpa using this
def nm_kA : List (List UInt8) := [[107, 101, 121], [97]]
def nm_aK : List (List UInt8) := [[97], [107, 101, 121]]
def nm_bK : List (List UInt8) := [[98], [107, 101, 121]]
def nm_badK : List (List UInt8) := [[98, 97, 100], [107, 101, 121]]
def K4 : List (Ty.D tKey) := [(nm_kA, 100), (nm_aK, 101), (nm_bK, 102), (nm_badK, 103)]
def ru1 : List UInt8 := [47, 63, 120, 47, 107, 101, 121, 32, 60, 32, 47, 107, 101, 121, 47, 97]
def ru2 : List UInt8 := [47, 63, 120, 47, 42, 42, 32, 60, 32, 47, 63, 120, 47, 107, 101, 121]
def R2 : List (Ty.D tRule) := [(prS ru1).1, (prS ru2).1]
theorem pn_kA : (pnS [47, 107, 101, 121, 47, 97]).1 = nm_kA := by decide
theorem pn_aK : (pnS [47, 97, 47, 107, 101, 121]).1 = nm_aK := by decide
theorem pn_bK : (pnS [47, 98, 47, 107, 101, 121]).1 = nm_bK := by decide
theorem pn_badK : (pnS [47, 98, 97, 100, 47, 107, 101, 121]).1 = nm_badK := by decide
def okCert (x : Ty.D tData) : Prop := ∃ n, (n = nm_aK ∨ n = nm_bK) ∧ f1_IssueCertificate K4 n nm_kA 5000 = true ∧ x = f0_IssueCertificate K4 n nm_kA 5000
def okTrust (t : Ty.D tTrustPolicy) : Prop := t.1 = K4 ∧ t.2.1 = R2 ∧ t.2.2.1 = [nm_kA] ∧ t.2.2.2.length ≤ 2 ∧ ∀ x ∈ t.2.2.2, okCert x
theorem data_bulk {x : Ty.D tData} (h : f_ValidData x = true) : Ty.bulk tData x ≤ 168 := by
 unfold f_ValidData at h
 simp only [Bool.and_eq_true, decide_eq_true_eq] at h
 have h1 := name_bulk h.1
 have h2 := h.2.2.1
 have h3 := name_bulk h.2.2.2.1
 have h4 : Ty.bulk (.sl .byte) x.2.1 = List.length x.2.1 := Ty.bulk_flat (fun _ => rfl) _
 show Ty.bulk (.sl .str) x.1 + (Ty.bulk (.sl .byte) x.2.1 + (Ty.bulk (.sl .str) x.2.2.1 + (0 + 0))) ≤ 168
 omega
theorem okCert_valid {x : Ty.D tData} (h : okCert x) : f_ValidData x = true ∧ x.2.2.2.1 = 5000 := by
 obtain ⟨n, _, h1, rfl⟩ := h
 unfold f0_IssueCertificate f1_IssueCertificate at *
 rw [swk_yes h1]
 unfold f1_SignWithKey at h1
 simp only [Bool.and_eq_true] at h1
 exact ⟨h1.2, rfl⟩
theorem ib100 : -9223372036854775808 ≤ (100 : Int) ∧ (100 : Int) ≤ 9223372036854775807 := by decide
theorem ib101 : -9223372036854775808 ≤ (101 : Int) ∧ (101 : Int) ≤ 9223372036854775807 := by decide
theorem ib102 : -9223372036854775808 ≤ (102 : Int) ∧ (102 : Int) ≤ 9223372036854775807 := by decide
theorem ib103 : -9223372036854775808 ≤ (103 : Int) ∧ (103 : Int) ≤ 9223372036854775807 := by decide
end Go.Proofs.YtldgbnlcnlfmeaaGreat
