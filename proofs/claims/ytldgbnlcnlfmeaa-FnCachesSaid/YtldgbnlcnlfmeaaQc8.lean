/- Texts of this claim, merged by a program: Cda Cur Cuw Sp0. -/
import Derived.Test.YtldgbnlcnlfmeaaQcP
import Derived.Test.YtldgbnlcnlfmeaaQc7
import Derived.Test.YtldgbnlcnlfmeaaQc2
import Derived.Test.YtldgbnlcnlfmeaaQc1
import Derived.Test.YtldgbnlcnlfmeaaQc0
import Derived.Laws.BitsLemmas
import Derived.BigQuiet
namespace Go.Proofs.Ytldgbnlcnlfmeaa
open Go.RowKit
set_option linter.unusedVariables false
set_option linter.unusedSimpArgs false
def lenAt (w : World) (g : Nat) : Nat := match w.cell? ⟨g, 1, none⟩ with | some (.slice _ n _) => n | _ => 0
theorem lenAt_of {w : World} {g n c : Nat} {A : Option Addr} (h : w.cell? ⟨g, 1, none⟩ = some (.slice A n c)) : lenAt w g = n := by unfold lenAt; rw [h]
theorem keepE_dropAt {p : Ty.D tCacheEntry → Bool} {l : List (Ty.D tCacheEntry)} {k : Nat} (h : k < l.length) (hp : p l[k] = false) : keepE p (dropAt l k) = keepE p l := by
 unfold keepE dropAt
 have h2 : l = l.take k ++ l[k] :: l.drop (k + 1) := by rw [List.getElem_cons_drop, List.take_append_drop]
 conv => rhs; rw [h2]
 rw [List.filter_append, List.filter_append, List.filter_cons, hp]
 simp
theorem keepE_none {n : List (List UInt8)} {l : List (Ty.D tCacheEntry)} (h : l.any (entName n) = false) : keepE (notName n) l = l := by
 unfold keepE
 refine List.filter_eq_self.2 (fun a ha => ?_)
 rw [List.any_eq_false] at h
 unfold notName
 simpa using h a ha
set_option maxRecDepth 100000 in
set_option maxHeartbeats 4000000 in
theorem C_spec_CacheDataR (w : World) (cs1 : List Value) (x : Ty.D tContentStore) (cs2 : List Value) (d : Ty.D tData) (now : Int) (h1 : Ty.rd w tContentStore cs1 x) (h2 : Ty.rd w tData cs2 d) (s0 : Ty.bulk tContentStore x ≤ 1048576) (s1 : Ty.bulk tData d ≤ 1048576) (i2 : -9223372036854775808 ≤ now ∧ now ≤ 9223372036854775807) :
  Calls Try.prog 28 #[.agg cs1.toArray, .agg cs2.toArray, .int .i64 now] w (RetStore w 127 (f_CacheData x d now)) := by
 have h1' := h1
 have h2' := h2
 obtain ⟨Ax1, cx1, rfl, xg0, xg1⟩ := rd_ContentStore h1
 obtain ⟨Ad0, cd0, Ad1, cd1, Ad2, cd2, rfl, dg0, dg1, dg2, dg3, dg4⟩ := rd_Data h2
 have s0e := store_bulk' s0
 have hxl := Ty.bulk_len s0e
 have hbk : Ty.bulk tData d ≤ 1000000000 := Nat.le_trans s1 b_33
 have hF : f_CacheData x d now = if decide (x.1 < 1) = true ∨ f_ValidData d = false then x else (x.1, cacheE x d now) := rfl
 generalize f_CacheData x d now = F at hF ⊢
 have HF := Lib.hid hF
 clear hF
 have kb0_0 : (((w.alloc (.cells #[.int .i64 x.1, .slice Ax1 (List.length x.2) cx1] 55)).alloc (.cells #[.slice Ad0 (List.length d.1) cd0, .slice Ad1 (List.length d.2.1) cd1, .slice Ad2 (List.length d.2.2.1) cd2, .int .i64 d.2.2.2.1, .int .i64 d.2.2.2.2] 46)).alloc (.cells #[.int .i64 0, .slice none 0 0] 55)).cell? ⟨w.heap.size, 0, none⟩ = some (.int .i64 x.1) := ((World.cell?_alloc_lt _ _ _ b_26).trans ((World.cell?_alloc_lt _ _ _ b_26).trans (cell_new w _ _ 0 b_24)))
 have kb0_1 : (((w.alloc (.cells #[.int .i64 x.1, .slice Ax1 (List.length x.2) cx1] 55)).alloc (.cells #[.slice Ad0 (List.length d.1) cd0, .slice Ad1 (List.length d.2.1) cd1, .slice Ad2 (List.length d.2.2.1) cd2, .int .i64 d.2.2.2.1, .int .i64 d.2.2.2.2] 46)).alloc (.cells #[.int .i64 0, .slice none 0 0] 55)).cell? ⟨w.heap.size, 1, none⟩ = some (.slice Ax1 (List.length x.2) cx1) := ((World.cell?_alloc_lt _ _ _ b_26).trans ((World.cell?_alloc_lt _ _ _ b_26).trans (cell_new w _ _ 1 b_24)))
 have kb1_0 : (((w.alloc (.cells #[.int .i64 x.1, .slice Ax1 (List.length x.2) cx1] 55)).alloc (.cells #[.slice Ad0 (List.length d.1) cd0, .slice Ad1 (List.length d.2.1) cd1, .slice Ad2 (List.length d.2.2.1) cd2, .int .i64 d.2.2.2.1, .int .i64 d.2.2.2.2] 46)).alloc (.cells #[.int .i64 0, .slice none 0 0] 55)).cell? ⟨w.heap.size + 1, 0, none⟩ = some (.slice Ad0 (List.length d.1) cd0) := ((World.cell?_alloc_lt _ _ _ b_26).trans (cell_new (w.alloc (.cells #[.int .i64 x.1, .slice Ax1 (List.length x.2) cx1] 55)) _ _ 0 b_24))
 have kb1_1 : (((w.alloc (.cells #[.int .i64 x.1, .slice Ax1 (List.length x.2) cx1] 55)).alloc (.cells #[.slice Ad0 (List.length d.1) cd0, .slice Ad1 (List.length d.2.1) cd1, .slice Ad2 (List.length d.2.2.1) cd2, .int .i64 d.2.2.2.1, .int .i64 d.2.2.2.2] 46)).alloc (.cells #[.int .i64 0, .slice none 0 0] 55)).cell? ⟨w.heap.size + 1, 1, none⟩ = some (.slice Ad1 (List.length d.2.1) cd1) := ((World.cell?_alloc_lt _ _ _ b_26).trans (cell_new (w.alloc (.cells #[.int .i64 x.1, .slice Ax1 (List.length x.2) cx1] 55)) _ _ 1 b_24))
 have kb1_2 : (((w.alloc (.cells #[.int .i64 x.1, .slice Ax1 (List.length x.2) cx1] 55)).alloc (.cells #[.slice Ad0 (List.length d.1) cd0, .slice Ad1 (List.length d.2.1) cd1, .slice Ad2 (List.length d.2.2.1) cd2, .int .i64 d.2.2.2.1, .int .i64 d.2.2.2.2] 46)).alloc (.cells #[.int .i64 0, .slice none 0 0] 55)).cell? ⟨w.heap.size + 1, 2, none⟩ = some (.slice Ad2 (List.length d.2.2.1) cd2) := ((World.cell?_alloc_lt _ _ _ b_26).trans (cell_new (w.alloc (.cells #[.int .i64 x.1, .slice Ax1 (List.length x.2) cx1] 55)) _ _ 2 b_24))
 have kb1_3 : (((w.alloc (.cells #[.int .i64 x.1, .slice Ax1 (List.length x.2) cx1] 55)).alloc (.cells #[.slice Ad0 (List.length d.1) cd0, .slice Ad1 (List.length d.2.1) cd1, .slice Ad2 (List.length d.2.2.1) cd2, .int .i64 d.2.2.2.1, .int .i64 d.2.2.2.2] 46)).alloc (.cells #[.int .i64 0, .slice none 0 0] 55)).cell? ⟨w.heap.size + 1, 3, none⟩ = some (.int .i64 d.2.2.2.1) := ((World.cell?_alloc_lt _ _ _ b_26).trans (cell_new (w.alloc (.cells #[.int .i64 x.1, .slice Ax1 (List.length x.2) cx1] 55)) _ _ 3 b_24))
 have kb1_4 : (((w.alloc (.cells #[.int .i64 x.1, .slice Ax1 (List.length x.2) cx1] 55)).alloc (.cells #[.slice Ad0 (List.length d.1) cd0, .slice Ad1 (List.length d.2.1) cd1, .slice Ad2 (List.length d.2.2.1) cd2, .int .i64 d.2.2.2.1, .int .i64 d.2.2.2.2] 46)).alloc (.cells #[.int .i64 0, .slice none 0 0] 55)).cell? ⟨w.heap.size + 1, 4, none⟩ = some (.int .i64 d.2.2.2.2) := ((World.cell?_alloc_lt _ _ _ b_26).trans (cell_new (w.alloc (.cells #[.int .i64 x.1, .slice Ax1 (List.length x.2) cx1] 55)) _ _ 4 b_24))
 have kb2_0 : (((w.alloc (.cells #[.int .i64 x.1, .slice Ax1 (List.length x.2) cx1] 55)).alloc (.cells #[.slice Ad0 (List.length d.1) cd0, .slice Ad1 (List.length d.2.1) cd1, .slice Ad2 (List.length d.2.2.1) cd2, .int .i64 d.2.2.2.1, .int .i64 d.2.2.2.2] 46)).alloc (.cells #[.int .i64 0, .slice none 0 0] 55)).cell? ⟨w.heap.size + 1 + 1, 0, none⟩ = some (.int .i64 0) := (cell_new ((w.alloc (.cells #[.int .i64 x.1, .slice Ax1 (List.length x.2) cx1] 55)).alloc (.cells #[.slice Ad0 (List.length d.1) cd0, .slice Ad1 (List.length d.2.1) cd1, .slice Ad2 (List.length d.2.2.1) cd2, .int .i64 d.2.2.2.1, .int .i64 d.2.2.2.2] 46)) _ _ 0 b_24)
 have kb2_1 : (((w.alloc (.cells #[.int .i64 x.1, .slice Ax1 (List.length x.2) cx1] 55)).alloc (.cells #[.slice Ad0 (List.length d.1) cd0, .slice Ad1 (List.length d.2.1) cd1, .slice Ad2 (List.length d.2.2.1) cd2, .int .i64 d.2.2.2.1, .int .i64 d.2.2.2.2] 46)).alloc (.cells #[.int .i64 0, .slice none 0 0] 55)).cell? ⟨w.heap.size + 1 + 1, 1, none⟩ = some (.slice none 0 0) := (cell_new ((w.alloc (.cells #[.int .i64 x.1, .slice Ax1 (List.length x.2) cx1] 55)).alloc (.cells #[.slice Ad0 (List.length d.1) cd0, .slice Ad1 (List.length d.2.1) cd1, .slice Ad2 (List.length d.2.2.1) cd2, .int .i64 d.2.2.2.1, .int .i64 d.2.2.2.2] 46)) _ _ 1 b_24)
 have hvb : Below w.heap.size w (((w.alloc (.cells #[.int .i64 x.1, .slice Ax1 (List.length x.2) cx1] 55)).alloc (.cells #[.slice Ad0 (List.length d.1) cd0, .slice Ad1 (List.length d.2.1) cd1, .slice Ad2 (List.length d.2.2.1) cd2, .int .i64 d.2.2.2.1, .int .i64 d.2.2.2.2] 46)).alloc (.cells #[.int .i64 0, .slice none 0 0] 55)) := b_6
 have zb0 := Lib.hid (show (((w.alloc (.cells #[.int .i64 x.1, .slice Ax1 (List.length x.2) cx1] 55)).alloc (.cells #[.slice Ad0 (List.length d.1) cd0, .slice Ad1 (List.length d.2.1) cd1, .slice Ad2 (List.length d.2.2.1) cd2, .int .i64 d.2.2.2.1, .int .i64 d.2.2.2.2] 46)).alloc (.cells #[.int .i64 0, .slice none 0 0] 55)).heap.size = w.heap.size + 1 + 1 + 1 from by simp only [World.size_alloc])
 have zb : w.heap.size + 1 + 1 < (((w.alloc (.cells #[.int .i64 x.1, .slice Ax1 (List.length x.2) cx1] 55)).alloc (.cells #[.slice Ad0 (List.length d.1) cd0, .slice Ad1 (List.length d.2.1) cd1, .slice Ad2 (List.length d.2.2.1) cd2, .int .i64 d.2.2.2.1, .int .i64 d.2.2.2.2] 46)).alloc (.cells #[.int .i64 0, .slice none 0 0] 55)).heap.size := by simp only [World.size_alloc]; omega
 have hB0 : Blk (((w.alloc (.cells #[.int .i64 x.1, .slice Ax1 (List.length x.2) cx1] 55)).alloc (.cells #[.slice Ad0 (List.length d.1) cd0, .slice Ad1 (List.length d.2.1) cd1, .slice Ad2 (List.length d.2.2.1) cd2, .int .i64 d.2.2.2.1, .int .i64 d.2.2.2.2] 46)).alloc (.cells #[.int .i64 0, .slice none 0 0] 55)) w.heap.size 55 #[.int .i64 x.1, .slice Ax1 (List.length x.2) cx1] := ((Blk.new w _ _).alloc _).alloc _
 have hD0 : Blk (((w.alloc (.cells #[.int .i64 x.1, .slice Ax1 (List.length x.2) cx1] 55)).alloc (.cells #[.slice Ad0 (List.length d.1) cd0, .slice Ad1 (List.length d.2.1) cd1, .slice Ad2 (List.length d.2.2.1) cd2, .int .i64 d.2.2.2.1, .int .i64 d.2.2.2.2] 46)).alloc (.cells #[.int .i64 0, .slice none 0 0] 55)) (w.heap.size + 1) 46 #[.slice Ad0 (List.length d.1) cd0, .slice Ad1 (List.length d.2.1) cd1, .slice Ad2 (List.length d.2.2.1) cd2, .int .i64 d.2.2.2.1, .int .i64 d.2.2.2.2] := Blk.alloc (by have := Blk.new (w.alloc (.cells #[.int .i64 x.1, .slice Ax1 (List.length x.2) cx1] 55)) 46 #[.slice Ad0 (List.length d.1) cd0, .slice Ad1 (List.length d.2.1) cd1, .slice Ad2 (List.length d.2.2.1) cd2, .int .i64 d.2.2.2.1, .int .i64 d.2.2.2.2]; rwa [World.size_alloc] at this) _
 have hR0 : Blk (((w.alloc (.cells #[.int .i64 x.1, .slice Ax1 (List.length x.2) cx1] 55)).alloc (.cells #[.slice Ad0 (List.length d.1) cd0, .slice Ad1 (List.length d.2.1) cd1, .slice Ad2 (List.length d.2.2.1) cd2, .int .i64 d.2.2.2.1, .int .i64 d.2.2.2.2] 46)).alloc (.cells #[.int .i64 0, .slice none 0 0] 55)) (w.heap.size + 1 + 1) 55 #[.int .i64 0, .slice none 0 0] := by have := Blk.new ((w.alloc (.cells #[.int .i64 x.1, .slice Ax1 (List.length x.2) cx1] 55)).alloc (.cells #[.slice Ad0 (List.length d.1) cd0, .slice Ad1 (List.length d.2.1) cd1, .slice Ad2 (List.length d.2.2.1) cd2, .int .i64 d.2.2.2.1, .int .i64 d.2.2.2.2] 46)) 55 #[.int .i64 0, .slice none 0 0]; rwa [World.size_alloc, World.size_alloc] at this
 go_enter Try.func28, Try.ntmps28
 go_wp2_with fail
 generalize (((w.alloc (.cells #[.int .i64 x.1, .slice Ax1 (List.length x.2) cx1] 55)).alloc (.cells #[.slice Ad0 (List.length d.1) cd0, .slice Ad1 (List.length d.2.1) cd1, .slice Ad2 (List.length d.2.2.1) cd2, .int .i64 d.2.2.2.1, .int .i64 d.2.2.2.2] 46)).alloc (.cells #[.int .i64 0, .slice none 0 0] 55)) = WX at hB0 hD0 hR0 kb0_0 kb0_1 kb1_0 kb1_1 kb1_2 kb1_3 kb1_4 kb2_0 kb2_1 hvb zb zb0 ⊢
 have HC : Hid (∀ V, Below WX.heap.size WX V → V.cell? ⟨w.heap.size, 0, none⟩ = some (.int .i64 x.1) ∧ V.cell? ⟨w.heap.size, 1, none⟩ = some (.slice Ax1 (List.length x.2) cx1) ∧ V.cell? ⟨w.heap.size + 1, 0, none⟩ = some (.slice Ad0 (List.length d.1) cd0) ∧ V.cell? ⟨w.heap.size + 1, 1, none⟩ = some (.slice Ad1 (List.length d.2.1) cd1) ∧ V.cell? ⟨w.heap.size + 1, 2, none⟩ = some (.slice Ad2 (List.length d.2.2.1) cd2) ∧ V.cell? ⟨w.heap.size + 1, 3, none⟩ = some (.int .i64 d.2.2.2.1) ∧ V.cell? ⟨w.heap.size + 1, 4, none⟩ = some (.int .i64 d.2.2.2.2) ∧ V.cell? ⟨w.heap.size + 1 + 1, 0, none⟩ = some (.int .i64 0) ∧ V.cell? ⟨w.heap.size + 1 + 1, 1, none⟩ = some (.slice none 0 0)) := fun V hW => ⟨(hW.cell (p := ⟨w.heap.size, 0, none⟩) b_30).trans kb0_0, (hW.cell (p := ⟨w.heap.size, 1, none⟩) b_30).trans kb0_1, (hW.cell (p := ⟨w.heap.size + 1, 0, none⟩) b_30).trans kb1_0, (hW.cell (p := ⟨w.heap.size + 1, 1, none⟩) b_30).trans kb1_1, (hW.cell (p := ⟨w.heap.size + 1, 2, none⟩) b_30).trans kb1_2, (hW.cell (p := ⟨w.heap.size + 1, 3, none⟩) b_30).trans kb1_3, (hW.cell (p := ⟨w.heap.size + 1, 4, none⟩) b_30).trans kb1_4, (hW.cell (p := ⟨w.heap.size + 1 + 1, 0, none⟩) b_30).trans kb2_0, (hW.cell (p := ⟨w.heap.size + 1 + 1, 1, none⟩) b_30).trans kb2_1⟩
 clear kb0_0 kb0_1 kb1_0 kb1_1 kb1_2 kb1_3 kb1_4 kb2_0 kb2_1
 have hks := C_spec_l12CopyR WX [.int .i64 x.1, .slice Ax1 (List.length x.2) cx1] x (Ty.rd_below hvb h1') s0
 rw [keep_all] at hks
 refine hks.mono ?_
 rintro e w1 ⟨v1, rfl, hr1, hb1⟩
 clear hks
 obtain ⟨A1, c1, hv1⟩ := hr1.form
 subst hv1
 obtain ⟨fp1, hf1, hfr1⟩ := hr1.toF
 have hzz1 := hb1.size
 have hB1 := hB0.below hb1 hB0.lt
 have hD1 := hD0.below hb1 hD0.lt
 have hR1 := hR0.below hb1 hR0.lt
 have kB1 : w1.cell? ⟨w.heap.size, 0, none⟩ = some (.int .i64 x.1) := hB1.cell 0
 have zB1 : w.heap.size < w1.heap.size := by omega
 obtain ⟨kD1_0, kD1_1, kD1_2, kD1_3, kD1_4, -, -, -, -, -, -⟩ := bk5 hD1
 have zD1 : w.heap.size + 1 < w1.heap.size := by omega
 have hO0 : Blk (w1.alloc (.cells #[.int .i64 x.1, .slice A1 (List.length x.2) c1] 55)) w1.heap.size 55 #[.int .i64 x.1, .slice A1 (List.length x.2) c1] := Blk.new _ _ _
 have hvo : Below w1.heap.size w1 (w1.alloc (.cells #[.int .i64 x.1, .slice A1 (List.length x.2) c1] 55)) := b_6
 by_cases hc : x.1 < 1
 ·have q0 : decide (x.1 < 1) = true := decide_eq_true hc
  have HZ := Lib.hid (show F = x from by rw [HF.out, if_pos (Or.inl q0)])
  have HB1 := Lib.hid hB1
  have HR1_ := Lib.hid hr1
  clear hc
  have hv00 : Below ((w1.alloc (.cells #[.int .i64 x.1, .slice A1 (List.length x.2) c1] 55))).heap.size (w1.alloc (.cells #[.int .i64 x.1, .slice A1 (List.length x.2) c1] 55)) (w1.alloc (.cells #[.int .i64 x.1, .slice A1 (List.length x.2) c1] 55)) := Below.refl _ _
  have hO8 := hO0.below hv00 hO0.lt
  have hR8 := (hR1.below hvo hR1.lt).below hv00 (hR1.below hvo hR1.lt).lt
  have kR_8_0 : (w1.alloc (.cells #[.int .i64 x.1, .slice A1 (List.length x.2) c1] 55)).cell? ⟨w.heap.size + 1 + 1, 0, none⟩ = some (.int .i64 0) := hR8.cell 0
  have fR_8_0 : (w1.alloc (.cells #[.int .i64 x.1, .slice A1 (List.length x.2) c1] 55)).frozen? ⟨w.heap.size + 1 + 1, 0, none⟩ = false := hR8.frozen 0
  have kR_8_1 : (w1.alloc (.cells #[.int .i64 x.1, .slice A1 (List.length x.2) c1] 55)).cell? ⟨w.heap.size + 1 + 1, 1, none⟩ = some (.slice none 0 0) := hR8.cell 1
  have fR_8_1 : (w1.alloc (.cells #[.int .i64 x.1, .slice A1 (List.length x.2) c1] 55)).frozen? ⟨w.heap.size + 1 + 1, 1, none⟩ = false := hR8.frozen 1
  have zR_8 : w.heap.size + 1 + 1 < (w1.alloc (.cells #[.int .i64 x.1, .slice A1 (List.length x.2) c1] 55)).heap.size := hR8.lt
  have kO_8_0 : (w1.alloc (.cells #[.int .i64 x.1, .slice A1 (List.length x.2) c1] 55)).cell? ⟨w1.heap.size, 0, none⟩ = some (.int .i64 x.1) := hO8.cell 0
  have fO_8_0 : (w1.alloc (.cells #[.int .i64 x.1, .slice A1 (List.length x.2) c1] 55)).frozen? ⟨w1.heap.size, 0, none⟩ = false := hO8.frozen 0
  have kO_8_1 : (w1.alloc (.cells #[.int .i64 x.1, .slice A1 (List.length x.2) c1] 55)).cell? ⟨w1.heap.size, 1, none⟩ = some (.slice A1 (List.length x.2) c1) := hO8.cell 1
  have fO_8_1 : (w1.alloc (.cells #[.int .i64 x.1, .slice A1 (List.length x.2) c1] 55)).frozen? ⟨w1.heap.size, 1, none⟩ = false := hO8.frozen 1
  have zO_8 : w1.heap.size < (w1.alloc (.cells #[.int .i64 x.1, .slice A1 (List.length x.2) c1] 55)).heap.size := hO8.lt
  have hn5 : w1.heap.size ≠ w.heap.size + 1 + 1 := by omega
  have hn6 : w.heap.size + 1 + 1 ≠ w1.heap.size := by omega
  have hw8 : Below w.heap.size w (w1.alloc (.cells #[.int .i64 x.1, .slice A1 (List.length x.2) c1] 55)) := bel_trans hvb (bel_trans hb1 (bel_trans hvo hv00))
  have hr8 := (hr1.below hvo).below hv00
  have HR8 := Lib.hid hr8
  clear hr8
  go_wp2
  refine bodyPost_ret (v := .agg #[.int .i64 x.1, .slice A1 (List.length x.2) c1]) b_15 rfl ?_
  rw [HZ.out]
  exact (show RetStore w 127 x _ _ from ⟨_, rfl, ((HR8.out.far (p := ⟨w.heap.size + 1 + 1, 0, none⟩) b_30 _).far (p := ⟨w.heap.size + 1 + 1, 1, none⟩) b_30 _).mono b_34, b_6⟩)
 have q0 : decide (x.1 < 1) = false := decide_eq_false hc
 go_wp2_with fail
 clear q0
 generalize (w1.alloc (.cells #[.int .i64 x.1, .slice A1 (List.length x.2) c1] 55)) = WO at hO0 hvo ⊢
 refine (C_spec_ValidData _ _ d (Ty.rd_below (bel_trans hvb (bel_trans hb1 hvo)) h2') s1).mono ?_
 rintro e w2 ⟨rfl, hb2⟩
 clear kB1 zB1 kD1_0 kD1_1 kD1_2 kD1_3 kD1_4 zD1
 cases q1 : f_ValidData d
 ·have HZ := Lib.hid (show F = x from by rw [HF.out, if_pos (Or.inr q1)])
  have hO8 := hO0.below hb2 hO0.lt
  have hR8 := (hR1.below hvo hR1.lt).below hb2 (hR1.below hvo hR1.lt).lt
  have kR_8_0 : w2.cell? ⟨w.heap.size + 1 + 1, 0, none⟩ = some (.int .i64 0) := hR8.cell 0
  have fR_8_0 : w2.frozen? ⟨w.heap.size + 1 + 1, 0, none⟩ = false := hR8.frozen 0
  have kR_8_1 : w2.cell? ⟨w.heap.size + 1 + 1, 1, none⟩ = some (.slice none 0 0) := hR8.cell 1
  have fR_8_1 : w2.frozen? ⟨w.heap.size + 1 + 1, 1, none⟩ = false := hR8.frozen 1
  have zR_8 : w.heap.size + 1 + 1 < w2.heap.size := hR8.lt
  have kO_8_0 : w2.cell? ⟨w1.heap.size, 0, none⟩ = some (.int .i64 x.1) := hO8.cell 0
  have fO_8_0 : w2.frozen? ⟨w1.heap.size, 0, none⟩ = false := hO8.frozen 0
  have kO_8_1 : w2.cell? ⟨w1.heap.size, 1, none⟩ = some (.slice A1 (List.length x.2) c1) := hO8.cell 1
  have fO_8_1 : w2.frozen? ⟨w1.heap.size, 1, none⟩ = false := hO8.frozen 1
  have zO_8 : w1.heap.size < w2.heap.size := hO8.lt
  have hn5 : w1.heap.size ≠ w.heap.size + 1 + 1 := by omega
  have hn6 : w.heap.size + 1 + 1 ≠ w1.heap.size := by omega
  have hw8 : Below w.heap.size w w2 := bel_trans hvb (bel_trans hb1 (bel_trans hvo hb2))
  have hr8 := (hr1.below hvo).below hb2
  have HR8 := Lib.hid hr8
  clear hr8
  go_wp2
  refine bodyPost_ret (v := .agg #[.int .i64 x.1, .slice A1 (List.length x.2) c1]) b_15 rfl ?_
  rw [HZ.out]
  exact (show RetStore w 127 x _ _ from ⟨_, rfl, ((HR8.out.far (p := ⟨w.heap.size + 1 + 1, 0, none⟩) b_30 _).far (p := ⟨w.heap.size + 1 + 1, 1, none⟩) b_30 _).mono b_34, b_6⟩)
 have HZ := Lib.hid (show F = (x.1, cacheE x d now) from by rw [HF.out, if_neg (by rw [q1]; simp; omega)])
 have h12 : Below w1.heap.size w1 w2 := bel_trans hvo hb2
 have hOp := hO0.below hb2 hO0.lt
 have hDp := hD1.below h12 hD1.lt
 have hRp := hR1.below h12 hR1.lt
 have hBp := hB1.below h12 hB1.lt
 have kO : w2.cell? ⟨w1.heap.size, 1, none⟩ = some (.slice A1 (List.length x.2) c1) := hOp.cell 1
 have zO : w1.heap.size < w2.heap.size := hOp.lt
 have kD : w2.cell? ⟨w.heap.size + 1, 0, none⟩ = some (.slice Ad0 (List.length d.1) cd0) := hDp.cell 0
 have zD : w.heap.size + 1 < w2.heap.size := hDp.lt
 have hrd := (hr1.below h12).rd
 go_wp2_with fail
 refine (C_spec_l12Find _ _ x.2 _ d.1 hrd (Ty.rd_below (bel_trans hvb (bel_trans hb1 h12)) dg0)).mono ?_
 rintro e w3 ⟨rfl, hb3⟩
 have hx3 : Below w1.heap.size w1 w3 := bel_trans h12 hb3
 have hO3 := hOp.below hb3 hOp.lt
 have hD3 := hD1.below hx3 hD1.lt
 have hR3 := hR1.below hx3 hR1.lt
 have hB3 := hB1.below hx3 hB1.lt
 have hno3 : ∀ g, (Value.slice A1 (List.length x.2) c1).ownBlock = some g → g ≠ w1.heap.size := fun g hg => by have := (hr1.block g hg).2; omega
 have HF3 := Lib.hid (hf1.below hx3)
 have hw3 : Below w.heap.size w w3 := bel_trans hvb (bel_trans hb1 hx3)
 clear hrd kO zO kD zD hf1 hr1 hOp hDp hRp hBp
 go_wp2
 go_loopw [8] (fun kk wr => ∃ (l : List (Ty.D tCacheEntry)) (vo : Value) (fpx : List Nat), kk = .int .i64 (ixf (entName d.1) l) ∧ Blk wr w1.heap.size 55 #[.int .i64 x.1, vo] ∧ Blk wr (w.heap.size + 1) 46 #[.slice Ad0 (List.length d.1) cd0, .slice Ad1 (List.length d.2.1) cd1, .slice Ad2 (List.length d.2.2.1) cd2, .int .i64 d.2.2.2.1, .int .i64 d.2.2.2.2] ∧ Blk wr (w.heap.size + 1 + 1) 55 #[.int .i64 0, .slice none 0 0] ∧ Blk wr w.heap.size 55 #[.int .i64 x.1, .slice Ax1 (List.length x.2) cx1] ∧ DRowF tCacheEntry wr WX.heap.size 127 vo l fpx ∧ FrI WX.heap.size w1.heap.size fpx ∧ (∀ g, vo.ownBlock = some g → g ≠ w1.heap.size) ∧ keepE (notName d.1) l = keepE (notName d.1) x.2 ∧ l.length ≤ List.length x.2 ∧ Below w.heap.size w wr) (fun _ wr => lenAt wr w1.heap.size)
 case atStart => exact ⟨x.2, _, fp1, rfl, hO3, hD3, hR3, hB3, HF3.out, hfr1, hno3, rfl, Nat.le_refl _, hw3⟩
 case round =>
  obtain ⟨l, vo, fpx, rfl, hO, hD, hR, hB, hrow, hfpx, hno, hke, hlx, hw⟩ := hrel
  obtain ⟨Av, cv, hv⟩ := hrow.form
  subst hv
  have HR := Lib.hid hrow
  have HKE := Lib.hid hke
  have HLX := Lib.hid hlx
  have hrdl := (hrow.drow (hfpx.mono (Nat.le_refl _) (by have := hO.lt; omega))).rd
  have HRD := Lib.hid hrdl
  clear hrow hke hlx hrdl
  have kO : wr.cell? ⟨w1.heap.size, 1, none⟩ = some (.slice Av (List.length l) cv) := hO.cell 1
  have fO : wr.frozen? ⟨w1.heap.size, 1, none⟩ = false := hO.frozen 1
  have zO : w1.heap.size < wr.heap.size := hO.lt
  have kD : wr.cell? ⟨w.heap.size + 1, 0, none⟩ = some (.slice Ad0 (List.length d.1) cd0) := hD.cell 0
  have zD : w.heap.size + 1 < wr.heap.size := hD.lt
  rcases ixf_cases (entName d.1) l with ⟨hi, hn⟩ | ⟨k, hlt, hi, ht, hq⟩
  rotate_left
  ·rw [hi]
   have HDK := Lib.hid (keepE_dropAt (p := notName d.1) hlt (by unfold notName; rw [hq]; rfl))
   have hdl := dropAt_len hlt
   have hll := HLX.out
   clear hi ht hq
   go_wp2_with fail
   refine (C_spec_l12Without _ _ l k WX.heap.size fpx HR.out hlt b_34 b_34).mono ?_
   rintro e w4 ⟨v4, fp4, rfl, hr4, hsub4, hown4, hb4⟩
   obtain ⟨n4, A4, c4, hv4⟩ : ∃ n A c, v4 = .slice A n c ∧ n = (dropAt l k).length := by obtain ⟨A, c, h⟩ := hr4.form; exact ⟨_, A, c, h, rfl⟩
   obtain ⟨hv4, hn4⟩ := hv4
   subst hv4
   have HN4 := Lib.hid hn4
   have HDL := Lib.hid hdl
   clear hn4 hdl
   have hno4 : ∀ g, (Value.slice A4 n4 c4).ownBlock = some g → g ≠ w1.heap.size := fun g hg => by have := hown4 g hg; omega
   have hfp4 := frI_sub hfpx hsub4
   have hO4 := hO.below hb4 hO.lt
   have hD4 := hD.below hb4 hD.lt
   have hR4 := hR.below hb4 hR.lt
   have hB4 := hB.below hb4 hB.lt
   have hw4 : Below w.heap.size w w4 := bel_trans hw hb4
   have HR4 := Lib.hid (hr4.far (p := ⟨w1.heap.size, 1, none⟩) (by dsimp only; intro hm; have := (hfp4.2 _ hm).2; omega) (fun g hg => hno4 g hg) (.slice A4 n4 c4))
   have hO5 := hO4.set_ 1 (.slice A4 n4 c4)
   have hD5 := hD4.far (p := ⟨w1.heap.size, 1, none⟩) b_30 (.slice A4 n4 c4)
   have hR5 := hR4.far (p := ⟨w1.heap.size, 1, none⟩) b_30 (.slice A4 n4 c4)
   have hB5 := hB4.far (p := ⟨w1.heap.size, 1, none⟩) b_30 (.slice A4 n4 c4)
   have hw5 : Below w.heap.size w (w4.setCell ⟨w1.heap.size, 1, none⟩ (.slice A4 n4 c4)) := bel_set hw4 b_30 _
   have kO4 : w4.cell? ⟨w1.heap.size, 1, none⟩ = some (.slice Av (List.length l) cv) := hO4.cell 1
   have fO4 : w4.frozen? ⟨w1.heap.size, 1, none⟩ = false := hO4.frozen 1
   have zO4 : w1.heap.size < w4.heap.size := hO4.lt
   have kD4 : w4.cell? ⟨w.heap.size + 1, 0, none⟩ = some (.slice Ad0 (List.length d.1) cd0) := hD4.cell 0
   have zD4 : w.heap.size + 1 < w4.heap.size := hD4.lt
   have hn5 : w1.heap.size ≠ w.heap.size + 1 := by omega
   have hn6 : w.heap.size + 1 ≠ w1.heap.size := by omega
   have hlen0 : lenAt wr w1.heap.size = l.length := lenAt_of kO
   have HL0 := Lib.hid hlen0
   clear hr4 hsub4 hown4 kO fO zO kD zD hlen0
   go_wp2_with fail
   generalize (w4.setCell ⟨w1.heap.size, 1, none⟩ (.slice A4 n4 c4)) = w5 at HR4 hO5 hD5 hR5 hB5 hw5 ⊢
   have hrd5 := (HR4.out.drow (hfp4.mono (Nat.le_refl _) (by have := hO5.lt; omega))).rd
   refine (C_spec_l12Find _ _ (dropAt l k) _ d.1 hrd5 (Ty.rd_below hw5 dg0)).mono ?_
   rintro e w7 ⟨rfl, hb7⟩
   have hO7 := hO5.below hb7 hO5.lt
   have HL7 := Lib.hid (lenAt_of (hO7.cell 1))
   have hw7 : Below w.heap.size w w7 := bel_trans hw5 hb7
   have hD7 := hD5.below hb7 hD5.lt
   have hR7 := hR5.below hb7 hR5.lt
   have hB7 := hB5.below hb7 hB5.lt
   have HR7 := Lib.hid (HR4.out.below hb7)
   clear hrd5 kO4 fO4 zO4 kD4 zD4
   go_wp2
   go_roundw
   case rel => exact ⟨dropAt l k, _, fp4, rfl, hO7, hD7, hR7, hB7, HR7.out, hfp4, hno4, by rw [HDK.out, HKE.out], by have := HLX.out; rw [HDL.out]; omega, hw7⟩
   case measure => rw [HL7.out, HL0.out, HN4.out, HDL.out]; omega
  rw [hi]
  have hkl : keepE (notName d.1) x.2 = l := by rw [← HKE.out]; exact keepE_none hn
  have HCE := Lib.hid (show cacheE x d now = roomFor x.1 l ++ [(d, now)] from by unfold cacheE; rw [hkl])
  have hll : l.length ≤ 1048576 := by have := HLX.out; omega
  clear hi hn hkl
  have kB : wr.cell? ⟨w.heap.size, 0, none⟩ = some (.int .i64 x.1) := hB.cell 0
  have zB : w.heap.size < wr.heap.size := hB.lt
  obtain ⟨-, kD1, kD2, kD3, kD4, -, -, -, -, -, -⟩ := bk5 hD
  by_cases hcap : x.1 ≤ (l.length : Int)
  rotate_left
  ·have q2 : decide (x.1 ≤ (l.length : Int)) = false := decide_eq_false hcap
   have HL2 := Lib.hid (show cacheE x d now = l ++ [(d, now)] from by rw [HCE.out]; unfold roomFor; rw [if_neg hcap])
   clear hcap
   go_wp2_with fail
   refine (C_spec_l8Copy _ _ d (Ty.rd_below hw h2') hbk).mono ?_
   rintro e w6 ⟨cs6, fp6, rfl, how6, hfr6, hb6⟩
   obtain ⟨Aq0, cq0, Aq1, cq1, Aq2, cq2, rfl⟩ := ow_Data how6
   have hz6 := hb6.size
   have kO6 : w6.cell? ⟨w1.heap.size, 1, none⟩ = some (.slice Av (List.length l) cv) := (hb6.cell (p := ⟨w1.heap.size, 1, none⟩) hO.lt).trans (hO.cell 1)
   have zO6 : w1.heap.size < w6.heap.size := Nat.lt_of_lt_of_le hO.lt hz6
   have zWr : w1.heap.size < wr.heap.size := hO.lt
   clear kD zD kD1 kD2 kD3 kD4 kB zB q2 kO fO zO
   go_wp2_with (at_builtin; go_loud (refine wpList_append_drowF (e := tCacheEntry) rfl _ _ 53 rfl WX.heap.size 127 info_CacheEntry rfl Try.underlying53 _ _ l [(d, now)] fpx fp6 b_35 b_35 (HR.out.below b_2) (SrcF.lit 127 (ow_CacheEntry_mk (d := (d, now)) (Ty.ow_bel b_2 how6) i2) b_24) (fun g hg hm => by have := (HR.out.block g hg).2; have := (hfr6.2 g hm).1; omega) (by rw [List.length_singleton]; omega) (by rw [List.length_singleton]; unfold maxLen; omega) (by (try simp only [World.size_alloc]); omega) ?_))
   intro v' w' hr' hg' ho'
   obtain ⟨nn, An, cn, hvn⟩ : ∃ n A c, v' = .slice A n c := by obtain ⟨A, c, h⟩ := hr'.form; exact ⟨_, A, c, h⟩
   subst hvn
   have hRn := grow_blk (w0 := wr) b_2 hg' hR (fun e => by have := (HR.out.block _ e.symm).1; omega)
   have hOn := grow_blk (w0 := wr) b_2 hg' hO (fun e => hno _ e.symm rfl)
   have hbn : Below w.heap.size w w' := grow_bel (bel_trans hw b_2) hg' (fun g hg => by have := (HR.out.block g hg).1; omega)
   have hszn : w6.heap.size ≤ w'.heap.size := by have := hg'.size; (try simp only [World.size_alloc] at this); omega
   have hnon : ∀ g, (Value.slice An nn cn).ownBlock = some g → g ≠ w1.heap.size := fun g hg => by
    rcases ho' with ho' | ho'
    ·rw [ho'] at hg; exact hno g hg
    ·rw [ho'] at hg
     simp only [Option.some.injEq] at hg
     (try simp only [World.size_alloc] at hg)
     omega
   have hR8 := hRn
   have hO8 := hOn
   have kR_8_0 : w'.cell? ⟨w.heap.size + 1 + 1, 0, none⟩ = some (.int .i64 0) := hR8.cell 0
   have fR_8_0 : w'.frozen? ⟨w.heap.size + 1 + 1, 0, none⟩ = false := hR8.frozen 0
   have kR_8_1 : w'.cell? ⟨w.heap.size + 1 + 1, 1, none⟩ = some (.slice none 0 0) := hR8.cell 1
   have fR_8_1 : w'.frozen? ⟨w.heap.size + 1 + 1, 1, none⟩ = false := hR8.frozen 1
   have zR_8 : w.heap.size + 1 + 1 < w'.heap.size := hR8.lt
   have kO_8_0 : w'.cell? ⟨w1.heap.size, 0, none⟩ = some (.int .i64 x.1) := hO8.cell 0
   have fO_8_0 : w'.frozen? ⟨w1.heap.size, 0, none⟩ = false := hO8.frozen 0
   have kO_8_1 : w'.cell? ⟨w1.heap.size, 1, none⟩ = some (.slice Av (List.length l) cv) := hO8.cell 1
   have fO_8_1 : w'.frozen? ⟨w1.heap.size, 1, none⟩ = false := hO8.frozen 1
   have zO_8 : w1.heap.size < w'.heap.size := hO8.lt
   have hn5 : w1.heap.size ≠ w.heap.size + 1 + 1 := by omega
   have hn6 : w.heap.size + 1 + 1 ≠ w1.heap.size := by omega
   have hr9 := hr'.far (p := ⟨w1.heap.size, 1, none⟩) (by dsimp only; intro hm; rcases List.mem_append.1 hm with hm | hm; (have := hfpx.2 _ hm; omega); (have := (hfr6.2 _ hm).1; omega)) (fun g hg => hnon g hg) (.slice An nn cn)
   have hr10 := hr9.drow (FrI.app hfpx (hfr6.mono (show w1.heap.size ≤ _ by omega) (show _ ≤ (w'.setCell ⟨w1.heap.size, 1, none⟩ (.slice An nn cn)).heap.size by rw [World.size_setCell]; exact hszn)) (Nat.le_refl _) b_34 (by rw [World.size_setCell]; omega))
   have HR10 := Lib.hid hr10
   clear hr' hr9 hr10 hg' ho' hRn hOn kO6 zO6
   go_wp2
   refine bodyPost_ret (v := .agg #[.int .i64 x.1, .slice An nn cn]) b_15 rfl ?_
   rw [HZ.out, HL2.out]
   exact (show RetStore w 127 (x.1, l ++ [(d, now)]) _ _ from ⟨_, rfl, ((HR10.out.far (p := ⟨w.heap.size + 1 + 1, 0, none⟩) b_30 (.int .i64 x.1)).far (p := ⟨w.heap.size + 1 + 1, 1, none⟩) b_30 (.slice An nn cn)).mono b_34, b_6⟩)
  have q2 : decide (x.1 ≤ (l.length : Int)) = true := decide_eq_true hcap
  have hpos : 0 < l.length := by
   rcases Nat.eq_zero_or_pos l.length with h0 | h0
   ·exfalso
    have h3 : x.1 ≤ ((l.length : Nat) : Int) := hcap
    rw [h0] at h3
    exact absurd (Int.le_trans hc h3) b_33
   ·exact h0
  have HL2 := Lib.hid (show cacheE x d now = dropAt l (leastTo l l.length) ++ [(d, now)] from by rw [HCE.out]; unfold roomFor; rw [if_pos hcap])
  clear hcap
  obtain ⟨wo, hwo⟩ : ∃ wo, wo = wr := ⟨_, rfl⟩
  subst hwo
  go_wp2
  clear q2 kB zB kD zD kD1 kD2 kD3 kD4 kO fO zO
  go_loopw [9, 10] (fun old i wr => ∃ k : Nat, 1 ≤ k ∧ k ≤ l.length ∧ old = .int .i64 ((leastTo l k : Nat) : Int) ∧ i = .int .i64 k ∧ Below wo.heap.size wo wr) (fun _ i _ => l.length - (intOf i).toNat)
  case atStart => exact ⟨1, by omega, by omega, by rw [leastTo_one]; rfl, rfl, Below.refl _ _⟩
  case round =>
   obtain ⟨k, hk1, hk, rfl, rfl, hb⟩ := hrel
   have hOr := hO.below hb hO.lt
   have kO1 : wr.cell? ⟨w1.heap.size, 1, none⟩ = some (.slice Av (List.length l) cv) := hOr.cell 1
   have fO1 : wr.frozen? ⟨w1.heap.size, 1, none⟩ = false := hOr.frozen 1
   have zO1 : w1.heap.size < wr.heap.size := hOr.lt
   obtain ⟨m, hm⟩ : ∃ m, m = leastTo l k := ⟨_, rfl⟩
   have hml : m < l.length := by rw [hm]; exact leastTo_lt hpos hk
   rw [← hm]
   have HM := Lib.hid hm
   clear hm
   have i2_ : (0 : Int) ≤ (m : Int) := by omega
   have i3 : (m : Int) < (l.length : Int) := by omega
   by_cases hlt : k < l.length
   ·have HST := Lib.hid (show leastTo l (k + 1) = if usedAt l k < usedAt l m then k else m from by rw [HM.out]; rfl)
    rw [usedAt_at hlt, usedAt_at hml] at HST
    have i0 : (0 : Int) ≤ (k : Int) := by omega
    have i1 : (k : Int) < (l.length : Int) := by omega
    obtain ⟨b, o, dse, rfl, hle, hcelle, hrde⟩ := Ty.rd_at (Ty.rd_below hb HRD.out) hlt
    have hrde' := hrde
    obtain ⟨Ae00, ce00, Ae01, ce01, Ae02, ce02, rfl, eg0, eg1⟩ := rd_CacheEntry hrde
    have e0 : wr.cell? ⟨b, o + k * 6, none⟩ = some (.slice Ae00 (List.length (l)[k].1.1) ce00) := by simpa [Ty.sz] using hcelle 0 b_33
    have e1 : wr.cell? ⟨b, o + k * 6 + 1, none⟩ = some (.slice Ae01 (List.length (l)[k].1.2.1) ce01) := by simpa [Ty.sz] using hcelle 1 b_33
    have e2 : wr.cell? ⟨b, o + k * 6 + 2, none⟩ = some (.slice Ae02 (List.length (l)[k].1.2.2.1) ce02) := by simpa [Ty.sz] using hcelle 2 b_33
    have e3 : wr.cell? ⟨b, o + k * 6 + 3, none⟩ = some (.int .i64 (l)[k].1.2.2.2.1) := by simpa [Ty.sz] using hcelle 3 b_33
    have e4 : wr.cell? ⟨b, o + k * 6 + 4, none⟩ = some (.int .i64 (l)[k].1.2.2.2.2) := by simpa [Ty.sz] using hcelle 4 b_33
    have e5 : wr.cell? ⟨b, o + k * 6 + 5, none⟩ = some (.int .i64 (l)[k].2) := by simpa [Ty.sz] using hcelle 5 b_33
    clear hcelle hle
    obtain ⟨b', o', ds', hA', hl', hcell', hrd'⟩ := Ty.rd_at (Ty.rd_below hb HRD.out) hml
    injection hA' with hA'
    injection hA' with hA1 hA2
    subst hA1; subst hA2
    obtain ⟨Am00, cm00, Am01, cm01, Am02, cm02, rfl, mg0, mg1⟩ := rd_CacheEntry hrd'
    have g5 : wr.cell? ⟨b, o + m * 6 + 5, none⟩ = some (.int .i64 (l)[m].2) := by simpa [Ty.sz] using hcell' 5 b_33
    clear hcell' hl' e0 e1 e2 e3 e4
    cases q3 : decide ((l)[k].2 < (l)[m].2)
    ·have HN := Lib.hid (show leastTo l (k + 1) = m from by rw [HST.out, if_neg (by simpa using q3)])
     go_wp2_with fail
     go_quiet (fail)
     go_wp2
     go_roundw
     case rel => exact ⟨k + 1, by omega, by omega, by rw [HN.out], by go_num, bel_drewN hb _⟩
     case measure => simp [intOf]; omega
    ·have HN := Lib.hid (show leastTo l (k + 1) = k from by rw [HST.out, if_pos (by simpa using q3)])
     go_wp2_with fail
     go_quiet (fail)
     go_wp2
     go_roundw
     case rel => exact ⟨k + 1, by omega, by omega, by rw [HN.out], by go_num, bel_drewN hb _⟩
     case measure => simp [intOf]; omega
   ·have HL3 := Lib.hid (show cacheE x d now = dropAt l m ++ [(d, now)] from by rw [HL2.out, HM.out, show k = l.length from by omega])
    clear HL2
    go_wp2_with fail
    refine (C_spec_l12Without _ _ l m WX.heap.size fpx (HR.out.below hb) hml b_34 b_34).mono ?_
    rintro e w4 ⟨v4, fp4, rfl, hr4, hsub4, hown4, hb4⟩
    obtain ⟨n4, A4, c4, hv4⟩ : ∃ n A c, v4 = .slice A n c := by obtain ⟨A, c, h⟩ := hr4.form; exact ⟨_, A, c, h⟩
    subst hv4
    have hno4 : ∀ g, (Value.slice A4 n4 c4).ownBlock = some g → g ≠ w1.heap.size := fun g hg => by have := hown4 g hg; omega
    have hfp4 := frI_sub hfpx hsub4
    have hbb : Below wo.heap.size wo w4 := bel_trans hb hb4
    have hO4 := hO.below hbb hO.lt
    have hD4 := hD.below hbb hD.lt
    have hR4 := hR.below hbb hR.lt
    have hw4 : Below w.heap.size w w4 := bel_trans hw hbb
    have HR4 := Lib.hid (hr4.far (p := ⟨w1.heap.size, 1, none⟩) (by dsimp only; intro hm; have := (hfp4.2 _ hm).2; omega) (fun g hg => hno4 g hg) (.slice A4 n4 c4))
    have hll4 := dropAt_len hml
    obtain ⟨wr, hwr⟩ : ∃ wr, wr = (w4.setCell ⟨w1.heap.size, 1, none⟩ (.slice A4 n4 c4)) := ⟨_, rfl⟩
    have hO5 := hO4.set_ 1 (.slice A4 n4 c4)
    have hD5 := hD4.far (p := ⟨w1.heap.size, 1, none⟩) b_30 (.slice A4 n4 c4)
    have hR5 := hR4.far (p := ⟨w1.heap.size, 1, none⟩) b_30 (.slice A4 n4 c4)
    have hw5 : Below w.heap.size w (w4.setCell ⟨w1.heap.size, 1, none⟩ (.slice A4 n4 c4)) := bel_set hw4 b_30 _
    have kO4 : w4.cell? ⟨w1.heap.size, 1, none⟩ = some (.slice Av (List.length l) cv) := hO4.cell 1
    have fO4 : w4.frozen? ⟨w1.heap.size, 1, none⟩ = false := hO4.frozen 1
    have zO4 : w1.heap.size < w4.heap.size := hO4.lt
    obtain ⟨kD4_0, kD4_1, kD4_2, kD4_3, kD4_4, -, -, -, -, -, zD4⟩ := bk5 hD4
    have hn5 : w1.heap.size ≠ w.heap.size + 1 := by omega
    have hn6 : w.heap.size + 1 ≠ w1.heap.size := by omega
    have kD : True := trivial
    have zD : True := trivial
    have hO_ : Blk wr w1.heap.size 55 #[.int .i64 x.1, .slice A4 n4 c4] := by rw [hwr]; exact hO5
    have hDq : Blk wr (w.heap.size + 1) 46 #[.slice Ad0 (List.length d.1) cd0, .slice Ad1 (List.length d.2.1) cd1, .slice Ad2 (List.length d.2.2.1) cd2, .int .i64 d.2.2.2.1, .int .i64 d.2.2.2.2] := by rw [hwr]; exact hD5
    have hRq : Blk wr (w.heap.size + 1 + 1) 55 #[.int .i64 0, .slice none 0 0] := by rw [hwr]; exact hR5
    have hwq : Below w.heap.size w wr := by rw [hwr]; exact hw5
    obtain ⟨l2, hl2⟩ : ∃ l2, l2 = dropAt l m := ⟨_, rfl⟩
    have HRq : Hid (DRowF tCacheEntry wr WX.heap.size 127 (.slice A4 n4 c4) l2 fp4) := by rw [hwr, hl2]; exact HR4.out
    have HLq : Hid (cacheE x d now = l2 ++ [(d, now)]) := by rw [hl2]; exact HL3.out
    have hll2 : l2.length ≤ 1048576 := by rw [hl2]; omega
    have hnoq := hno4
    clear hr4 hsub4 hown4 kO1 fO1 zO1 HR4 hl2 HL3 HCE hO5 hD5 hR5 hw5
    have hwr' := Lib.hid hwr
    clear hwr
    go_wp2_with fail
    rw [← hwr'.out]
    refine (C_spec_l8Copy _ _ d (Ty.rd_below hwq h2') hbk).mono ?_
    rintro e w6 ⟨cs6, fp6, rfl, how6, hfr6, hb6⟩
    obtain ⟨Aq0, cq0, Aq1, cq1, Aq2, cq2, rfl⟩ := ow_Data how6
    have hz6 := hb6.size
    have kO6 : w6.cell? ⟨w1.heap.size, 1, none⟩ = some (.slice A4 n4 c4) := (hb6.cell (p := ⟨w1.heap.size, 1, none⟩) hO_.lt).trans (hO_.cell 1)
    have zO6 : w1.heap.size < w6.heap.size := Nat.lt_of_lt_of_le hO_.lt hz6
    have zWr : w1.heap.size < wr.heap.size := hO_.lt
    clear kD zD kO4 fO4 zO4 zD4 kD4_0 kD4_1 kD4_2 kD4_3 kD4_4 hn5 hn6
    go_wp2_with (at_builtin; go_loud (refine wpList_append_drowF (e := tCacheEntry) rfl _ _ 53 rfl WX.heap.size 127 info_CacheEntry rfl Try.underlying53 _ _ l2 [(d, now)] fp4 fp6 b_35 b_35 (HRq.out.below b_2) (SrcF.lit 127 (ow_CacheEntry_mk (d := (d, now)) (Ty.ow_bel b_2 how6) i2) b_24) (fun g hg hm => by have := (HRq.out.block g hg).2; have := (hfr6.2 g hm).1; omega) (by rw [List.length_singleton]; omega) (by rw [List.length_singleton]; unfold maxLen; omega) (by (try simp only [World.size_alloc]); omega) ?_))
    intro v' w' hr' hg' ho'
    obtain ⟨nn, An, cn, hvn⟩ : ∃ n A c, v' = .slice A n c := by obtain ⟨A, c, h⟩ := hr'.form; exact ⟨_, A, c, h⟩
    subst hvn
    have hRn := grow_blk (w0 := wr) b_2 hg' hRq (fun e => by have := (HRq.out.block _ e.symm).1; omega)
    have hOn := grow_blk (w0 := wr) b_2 hg' hO_ (fun e => hnoq _ e.symm rfl)
    have hbn : Below w.heap.size w w' := grow_bel (bel_trans hwq b_2) hg' (fun g hg => by have := (HRq.out.block g hg).1; omega)
    have hszn : w6.heap.size ≤ w'.heap.size := by have := hg'.size; (try simp only [World.size_alloc] at this); omega
    have hnon : ∀ g, (Value.slice An nn cn).ownBlock = some g → g ≠ w1.heap.size := fun g hg => by
     rcases ho' with ho' | ho'
     ·rw [ho'] at hg; exact hnoq g hg
     ·rw [ho'] at hg
      simp only [Option.some.injEq] at hg
      (try simp only [World.size_alloc] at hg)
      omega
    have hR8 := hRn
    have hO8 := hOn
    have kR_8_0 : w'.cell? ⟨w.heap.size + 1 + 1, 0, none⟩ = some (.int .i64 0) := hR8.cell 0
    have fR_8_0 : w'.frozen? ⟨w.heap.size + 1 + 1, 0, none⟩ = false := hR8.frozen 0
    have kR_8_1 : w'.cell? ⟨w.heap.size + 1 + 1, 1, none⟩ = some (.slice none 0 0) := hR8.cell 1
    have fR_8_1 : w'.frozen? ⟨w.heap.size + 1 + 1, 1, none⟩ = false := hR8.frozen 1
    have zR_8 : w.heap.size + 1 + 1 < w'.heap.size := hR8.lt
    have kO_8_0 : w'.cell? ⟨w1.heap.size, 0, none⟩ = some (.int .i64 x.1) := hO8.cell 0
    have fO_8_0 : w'.frozen? ⟨w1.heap.size, 0, none⟩ = false := hO8.frozen 0
    have kO_8_1 : w'.cell? ⟨w1.heap.size, 1, none⟩ = some (.slice A4 n4 c4) := hO8.cell 1
    have fO_8_1 : w'.frozen? ⟨w1.heap.size, 1, none⟩ = false := hO8.frozen 1
    have zO_8 : w1.heap.size < w'.heap.size := hO8.lt
    have hn5 : w1.heap.size ≠ w.heap.size + 1 + 1 := by omega
    have hn6 : w.heap.size + 1 + 1 ≠ w1.heap.size := by omega
    have hr9 := hr'.far (p := ⟨w1.heap.size, 1, none⟩) (by dsimp only; intro hm; rcases List.mem_append.1 hm with hm | hm; (have := hfp4.2 _ hm; omega); (have := (hfr6.2 _ hm).1; omega)) (fun g hg => hnon g hg) (.slice An nn cn)
    have hr10 := hr9.drow (FrI.app hfp4 (hfr6.mono (show w1.heap.size ≤ _ by omega) (show _ ≤ (w'.setCell ⟨w1.heap.size, 1, none⟩ (.slice An nn cn)).heap.size by rw [World.size_setCell]; exact hszn)) (Nat.le_refl _) b_34 (by rw [World.size_setCell]; omega))
    have HR10 := Lib.hid hr10
    clear hr' hr9 hr10 hg' ho' hRn hOn kO6 zO6
    go_wp2
    refine bodyPost_ret (v := .agg #[.int .i64 x.1, .slice An nn cn]) b_15 rfl ?_
    rw [HZ.out, HLq.out]
    exact (show RetStore w 127 (x.1, l2 ++ [(d, now)]) _ _ from ⟨_, rfl, ((HR10.out.far (p := ⟨w.heap.size + 1 + 1, 0, none⟩) b_30 (.int .i64 x.1)).far (p := ⟨w.heap.size + 1 + 1, 1, none⟩) b_30 (.slice An nn cn)).mono b_34, b_6⟩)
theorem C_spec_CacheData (w : World) (cs1 : List Value) (x : Ty.D tContentStore) (cs2 : List Value) (d : Ty.D tData) (now : Int) (h1 : Ty.rd w tContentStore cs1 x) (h2 : Ty.rd w tData cs2 d) (s0 : Ty.bulk tContentStore x ≤ 1048576) (s1 : Ty.bulk tData d ≤ 1048576) (i2 : -9223372036854775808 ≤ now ∧ now ≤ 9223372036854775807) :
  Calls Try.prog 28 #[.agg cs1.toArray, .agg cs2.toArray, .int .i64 now] w (RetAgg w tContentStore (f_CacheData x d now)) :=
 (C_spec_CacheDataR w cs1 x cs2 d now h1 h2 s0 s1 i2).mono (fun e w' hr => RetStore.agg (by have h0 := store_i0 h1; have : (f_CacheData x d now).1 = x.1 := by { unfold f_CacheData; split <;> rfl }; rw [this]; exact h0) hr)
def dead : Obj := .cells #[] 0 (0, 0)
def hide (B : Nat) (w : World) : World := { w with heap := w.heap.setIfInBounds B dead }
theorem hide_size (B : Nat) (w : World) : (hide B w).heap.size = w.heap.size := by show (w.heap.setIfInBounds B dead).size = _; simp
theorem hide_other {B g : Nat} (h : g ≠ B) (w : World) : (hide B w).heap[g]? = w.heap[g]? := by
 show (w.heap.setIfInBounds B dead)[g]? = _
 rw [Array.getElem?_setIfInBounds_ne (Ne.symm h)]
theorem hide_same {B : Nat} {w : World} (h : B < w.heap.size) : (hide B w).heap[B]? = some dead := by
 show (w.heap.setIfInBounds B dead)[B]? = _
 rw [Array.getElem?_setIfInBounds_self_of_lt h]
theorem hide_cell {B : Nat} {w : World} {p : Addr} {v : Value} (h : (hide B w).cell? p = some v) : w.cell? p = some v ∧ p.block ≠ B := by
 have hne : p.block ≠ B := by
  intro e
  have hlt : p.block < (hide B w).heap.size := World.block_lt_of_cell? _ _ h
  rw [hide_size] at hlt
  have h2 : (hide B w).heap[p.block]? = some dead := by rw [e]; exact hide_same b_34
  unfold World.cell? at h
  rw [h2] at h
  simp [dead] at h
 refine ⟨?_, hne⟩
 have : (hide B w).cell? p = w.cell? p := World.cell?_of_block (w := w) (a := p) (hide_other hne w)
 rw [← this]; exact h
theorem rd_hide {B : Nat} {w : World} : ∀ {t : Ty} {cs : List Value} {x : t.D}, t.rd (hide B w) cs x → t.rd w cs x
 | .int, _, _, h => h
 | .byte, _, _, h => h
 | .bool, _, _, h => h
 | .str, _, _, h => h
 | .sl e, _, _, ⟨A, c, h1, h2, h3, h4, h5⟩ => ⟨A, c, h1, h2, h3, h4, fun hn => by
   obtain ⟨b, o, hA, hc⟩ := h5 hn
   refine ⟨b, o, hA, fun i hi => ?_⟩
   obtain ⟨ds, hl, hcell, hr⟩ := hc i hi
   refine ⟨ds, hl, fun j hj => ?_, rd_hide hr⟩
   have hv : (hide B w).cell? ⟨b, o + i * e.sz + j, none⟩ = some (ds[j]'(by omega)) := by rw [hcell j hj]; exact List.getElem?_eq_getElem b_34
   rw [(hide_cell hv).1]
   exact (List.getElem?_eq_getElem b_34).symm⟩
 | .pr _ _, _, _, ⟨c1, c2, h, h1, h2⟩ => ⟨c1, c2, h, rd_hide h1, rd_hide h2⟩
abbrev Dr (B : Nat) (w w' : World) : Prop := Below w.heap.size (hide B w) (hide B w')
theorem Dr.refl (B : Nat) (w : World) : Dr B w w := Below.refl _ _
theorem Dr.size {B : Nat} {w w' : World} (h : Dr B w w') : w.heap.size ≤ w'.heap.size := by
 have := Below.size h; rw [hide_size, hide_size] at this; exact this
theorem Dr.of {w w' : World} (h : Below w.heap.size w w') (B : Nat) : Dr B w w' := by
 refine ⟨h.os, h.tape, h.output, by rw [hide_size, hide_size]; exact h.size, fun k hk => ?_⟩
 by_cases e : k = B
 ·subst e
  rw [hide_same hk, hide_same (Nat.lt_of_lt_of_le hk h.size)]
 ·rw [hide_other e, hide_other e]; exact h.block k hk
theorem Dr.trans {B : Nat} {w w1 w2 : World} (h : Dr B w w1) (k : Dr B w1 w2) : Dr B w w2 :=
 ⟨k.os.trans h.os, k.tape.trans h.tape, k.output.trans h.output, Nat.le_trans (Below.size h) (Below.size k), fun g hg => (k.block g (Nat.lt_of_lt_of_le hg h.size)).trans (h.block g hg)⟩
theorem Dr.then_ {B : Nat} {w w1 w2 : World} (h : Dr B w w1) (k : Below w1.heap.size w1 w2) : Dr B w w2 := h.trans (Dr.of k B)
theorem Dr.alloc {B : Nat} {w w1 : World} (h : Dr B w w1) (o : Obj) : Dr B w (w1.alloc o) := h.then_ (bel_alloc (Below.refl _ _) o)
theorem Dr.drewN {B : Nat} {w w1 : World} (h : Dr B w w1) (n : Nat) : Dr B w (w1.drewN n) := h.then_ (bel_drewN (Below.refl _ _) n)
theorem Dr.drew {B : Nat} {w w1 : World} (h : Dr B w w1) : Dr B w w1.drew := h.then_ (bel_drew (Below.refl _ _))
theorem ez {B : Nat} (u : World) {v w : World} (h : Dr B v w) (k : Dr B v w → Dr B u w := by first | exact id | exact fun h => (Dr.drew (Dr.refl _ _)).trans h) : Dr B u w ∧ u.heap.size ≤ w.heap.size := ⟨k h, (k h).size⟩
theorem drz {B : Nat} {w w' V : World} (X : Dr B w w') (h : Dr B w w' → Dr B w V := by first | exact id | exact Dr.drew) : Dr B w V := h X
theorem Dr.set {B : Nat} {w w1 : World} (h : Dr B w w1) {p : Addr} (hp : p.block = B ∨ w.heap.size ≤ p.block) (u : Value) : Dr B w (w1.setCell p u) := by
 refine ⟨h.os, h.tape, h.output, by have := Below.size h; rw [hide_size] at this ⊢; rw [hide_size, World.size_setCell]; rw [hide_size] at this; exact this, fun g hg => ?_⟩
 by_cases e : g = B
 ·subst e
  rw [hide_same (by rw [World.size_setCell]; exact Nat.lt_of_lt_of_le hg h.size), hide_same hg]
 ·rw [hide_other e, hide_other e, Below.heap_setCell w1 p u g (by rcases hp with hp | hp <;> omega)]
  have := h.block g hg
  rw [hide_other e, hide_other e] at this
  exact this
theorem Dr.block {B g : Nat} {w w' : World} (h : Dr B w w') (hg : g < w.heap.size) (hne : g ≠ B) : w'.heap[g]? = w.heap[g]? := by
 have := Below.block h g hg
 rw [hide_other hne, hide_other hne] at this
 exact this
theorem Dr.below {B n : Nat} {w w' : World} (h : Dr B w w') (hn : n ≤ B) (hs : n ≤ w.heap.size) : Below n w w' :=
 ⟨h.os, h.tape, h.output, h.size, fun k hk => h.block b_34 b_34⟩
theorem Dr.blk {B g : Nat} {w w' : World} {t : TypeId} {cs : Array Value} (h : Dr B w w') (hb : Blk w g t cs) (hne : g ≠ B) : Blk w' g t cs := (h.block hb.lt hne).trans hb
theorem Dr.rd {B : Nat} {w w' : World} (h : Dr B w w') {t : Ty} {cs : List Value} {x : t.D} (hr : t.rd (hide B w) cs x) : t.rd (hide B w') cs x :=
 Ty.rd_below (by rw [hide_size]; exact h) hr
theorem Dr.ow {B : Nat} {w w' : World} (h : Dr B w w') {t : Ty} {cs : List Value} {x : t.D} {fp : List Nat} (hr : t.ow w cs x fp) (hf : B ∉ fp) : t.ow w' cs x fp :=
 Ty.ow_keep (fun b hb => Dr.block h (Ty.ow_lt hr b hb) (fun e => by subst e; exact hf hb)) hr
theorem ow_hide {B : Nat} {w : World} {t : Ty} {cs : List Value} {x : t.D} {fp : List Nat} (hr : t.ow w cs x fp) (hf : B ∉ fp) : t.ow (hide B w) cs x fp :=
 Ty.ow_keep (fun b hb => hide_other (fun e => by subst e; exact hf hb) w) hr
theorem ow_hideF {B lo hi : Nat} {w : World} {t : Ty} {cs : List Value} {x : t.D} {fp : List Nat} (hr : t.ow w cs x fp) (hf : FrI lo hi fp) (hB : B < lo) : t.ow (hide B w) cs x fp :=
 ow_hide hr (fun e => by have := (hf.2 _ e).1; omega)
def Cur (tc : TypeId) (w : World) (B : Nat) : Prop :=
 ∃ w0 A c i h, ∃ b : List UInt8, w0.heap.size ≤ B ∧ Below w0.heap.size w0 w ∧ (Ty.sl .byte).rd w0 [.slice A b.length c] b ∧
  Blk w B tc #[.slice A b.length c, .int .i64 i, .int .i64 h] ∧ (0 ≤ i ∧ i ≤ b.length)
section
variable {tc : TypeId} {w w' : World} {B : Nat}
theorem Cur.lt (h : Cur tc w B) : B < w.heap.size := by
 obtain ⟨w0, A, c, i, h, b, _, _, _, hb, _⟩ := h
 exact hb.lt
theorem Cur.keep (h : Cur tc w B) (hb : w'.heap[B]? = w.heap[B]?) (hd : Below B w w') : Cur tc w' B := by
 obtain ⟨w0, A, c, i, h, b, h0, h1, h2, hk, h3⟩ := h
 exact ⟨w0, A, c, i, h, b, h0, h1.trans (hd.mono h0), h2, hb.trans hk, h3⟩
theorem Cur.below (h : Cur tc w B) (hb : Below w.heap.size w w') : Cur tc w' B := h.keep (hb.block B h.lt) (hb.mono (Nat.le_of_lt h.lt))
theorem Cur.alloc (h : Cur tc w B) (o : Obj) : Cur tc (w.alloc o) B := h.below (bel_alloc (Below.refl _ _) o)
theorem Cur.drew (h : Cur tc w B) : Cur tc w.drew B := h.below (bel_drew (Below.refl _ _))
theorem cuz {t : TypeId} {b : Nat} {u V : World} (X : Cur t u b) (h : Cur t u b → Cur t V b := by first | exact id | exact Cur.drew) : Cur t V b := h X
theorem Cur.drewN (h : Cur tc w B) (n : Nat) : Cur tc (w.drewN n) B := h.below (bel_drewN (Below.refl _ _) n)
theorem Cur.far (h : Cur tc w B) {p : Addr} (hp : B < p.block) (u : Value) : Cur tc (w.setCell p u) B :=
 h.keep (Below.heap_setCell w p u B b_34) ((Below.refl B w).setCell b_34 u)
theorem Cur.grown {row : Option Nat} (h : Cur tc w B) (hg : w.grownBy w' row) (hr : ∀ g, row = some g → B < g) : Cur tc w' B :=
 h.keep (hg.block B h.lt (fun e => by have := hr B e.symm; omega)) (bel_grown (Below.refl _ _) (Nat.le_of_lt h.lt) hg (fun g e => Nat.le_of_lt (hr g e)))
end
def RetDr (tc : TypeId) (B : Nat) (w : World) (Q : Ending → World → Prop) (e : Ending) (w' : World) : Prop := Dr B w w' ∧ Cur tc w' B ∧ Q e w'
def DrI (lo hi : Int) (e : Ending) (w' : World) : Prop := ∃ x : Int, e = .returned (.int .i64 x) ∧ lo ≤ x ∧ x ≤ hi
theorem i64_and255 (n : Int) : bits .and .i64 n 255 = n % 256 := by
 have h127 : (BitVec.ofInt 64 255).toNat = 2 ^ 8 - 1 := by decide
 have key : (BitVec.ofInt 64 n &&& BitVec.ofInt 64 255).toNat = (n % ((2 ^ 64 : Nat) : Int)).toNat % 2 ^ 8 := by
  rw [BitVec.toNat_and, BitVec.toNat_ofInt, h127, Nat.and_two_pow_sub_one_eq_mod]
 show IntKind.i64.wrap ((BitVec.ofInt 64 n &&& BitVec.ofInt 64 255).toNat : Nat) = n % 256
 rw [key, IntKind.wrap_i64]
 omega
abbrev CurT (w : World) (B : Nat) : Prop := Cur 154 w B
abbrev RetDT (B : Nat) (w : World) (Q : Ending → World → Prop) (e : Ending) (w' : World) : Prop := RetDr 154 B w Q e w'
abbrev pB (B : Nat) : Value := .pointer (some ⟨B, 0, none⟩)
set_option maxHeartbeats 1000000 in
theorem C_spec_l1New (w : World) (v : Value) (b : List UInt8) (h : (Ty.sl .byte).rd w [v] b) :
  Calls Try.prog 66 #[v] w (fun e w' => e = .returned (pB w.heap.size) ∧ Below w.heap.size w w' ∧ CurT w' w.heap.size) := by
 obtain ⟨A, c, rfl, hc, hm, hn⟩ := Ty.rd_sl h
 go_enter Try.func66, Try.ntmps66
 go_wp2
 go_loopw [3, 4] (fun hh i wr => ∃ (k : Nat) (x : Int), k ≤ b.length ∧ i = .int .i64 k ∧ hh = .int .i64 x ∧ wr = w) (fun _ i _ => b.length - (intOf i).toNat)
 case atStart => exact ⟨0, _, by omega, by first | rfl | simp, rfl, rfl⟩
 case round =>
  obtain ⟨k, x, hk, rfl, rfl, hw⟩ := hrel
  obtain rfl : w = wr := hw.symm
  by_cases hlt : k < b.length
  ·obtain ⟨bb, o, ds, rfl, hl, hcell, hrd⟩ := Ty.rd_at h hlt
   have hrd : ds = [.int .u8 (b[k].toNat : Int)] := hrd
   subst hrd
   have e0 : w.cell? ⟨bb, o + k, none⟩ = some (.int .u8 (b[k].toNat : Int)) := by simpa [Ty.sz] using hcell 0 b_33
   clear hcell hl
   by_cases h4 : (k : Int) < 4000
   ·go_wp2
    go_roundw
    case rel => exact ⟨k + 1, _, by omega, by go_num, rfl, by first | rfl | trivial⟩
    case measure => simp [intOf]; omega
   ·go_wp2
    go_ret
    exact ⟨rfl, b_6, w, _, _, _, _, b, Nat.le_refl _, b_6, h, Blk.new w _ _, ⟨by omega, by omega⟩⟩
  ·go_wp2
   go_ret
   exact ⟨rfl, b_6, w, _, _, _, _, b, Nat.le_refl _, b_6, h, Blk.new w _ _, ⟨by omega, by omega⟩⟩
set_option maxHeartbeats 2000000 in
theorem C_spec_l1Byte (w : World) (B : Nat) (hc : CurT w B) :
  Calls Try.prog 141 #[pB B] w (RetDT B w (DrI 0 255)) := by
 have hB := hc.lt
 obtain ⟨w0, A, c, i, hh, b, hb0, hb1, hrd, hk, hi0, hi1⟩ := hc
 obtain ⟨_, _, _, _, _, hbn⟩ := Ty.rd_sl hrd
 obtain ⟨k, rfl⟩ : ∃ k : Nat, i = k := ⟨i.toNat, by omega⟩
 have k0 : w.cell? ⟨B, 0, none⟩ = some (.slice A b.length c) := hk.cell 0
 have k1 : w.cell? ⟨B, 1, none⟩ = some (.int .i64 k) := hk.cell 1
 have k2 : w.cell? ⟨B, 2, none⟩ = some (.int .i64 hh) := hk.cell 2
 have f0 : w.frozen? ⟨B, 0, none⟩ = false := hk.frozen 0
 have f1 : w.frozen? ⟨B, 1, none⟩ = false := hk.frozen 1
 have f2 : w.frozen? ⟨B, 2, none⟩ = false := hk.frozen 2
 by_cases hlt : k < b.length
 ·obtain ⟨bb, o, ds, rfl, hl, hcell, hrd1⟩ := Ty.rd_at hrd hlt
  have hrd1 : ds = [.int .u8 (b[k].toNat : Int)] := hrd1
  subst hrd1
  have e0 : w0.cell? ⟨bb, o + k, none⟩ = some (.int .u8 (b[k].toNat : Int)) := by simpa [Ty.sz] using hcell 0 b_33
  have hbb : bb < w0.heap.size := World.block_lt_of_cell? _ _ e0
  have e1 : w.cell? ⟨bb, o + k, none⟩ = some (.int .u8 (b[k].toNat : Int)) := (hb1.cell (p := ⟨bb, o + k, none⟩) hbb).trans e0
  have hne : bb ≠ B := by omega
  clear hcell hl
  go_enter Try.func141, Try.ntmps141
  go_wp2
  go_quiet (fail)
  go_wp2
  go_quiet (fail)
  go_wp2
  go_quiet (fail)
  go_wp2
  go_ret
  refine ⟨b_3, ?_, _, rfl, by rw [i64_and255]; omega, by rw [i64_and255]; omega⟩
  refine ⟨w0, some ⟨bb, o, none⟩, c, ((k + 1 : Nat) : Int), wrap64 (wrap64 (hh * 6364136223846793005) + 1442695040888963407), b, hb0, (by repeat' (first | (with_reducible assumption) | (with_reducible refine Below.setCell ?_ b_30 _) | (with_reducible refine bel_drewN ?_ _) | (with_reducible refine bel_drew ?_))), hrd, ?_, ⟨by omega, by omega⟩⟩
  exact (hk.set_ 2 (.int .i64 (wrap64 (wrap64 (hh * 6364136223846793005) + 1442695040888963407)))).set_ 1 (.int .i64 ((k + 1 : Nat) : Int))
 ·go_enter Try.func141, Try.ntmps141
  go_wp2
  go_quiet (fail)
  go_wp2
  go_quiet (fail)
  go_wp2
  go_ret
  refine ⟨b_3, ?_, _, rfl, by rw [i64_and255]; omega, by rw [i64_and255]; omega⟩
  refine ⟨w0, A, c, (k : Int), wrap64 (wrap64 (hh * 6364136223846793005) + 1442695040888963407), b, hb0, (by repeat' (first | (with_reducible assumption) | (with_reducible refine Below.setCell ?_ b_30 _) | (with_reducible refine bel_drewN ?_ _) | (with_reducible refine bel_drew ?_))), hrd, ?_, ⟨by omega, by omega⟩⟩
  exact hk.set_ 2 (.int .i64 (wrap64 (wrap64 (hh * 6364136223846793005) + 1442695040888963407)))
theorem rem_bd (x n : Int) (h : 1 ≤ n) (hx : 0 ≤ x) : 0 ≤ x % n ∧ x % n ≤ n - 1 := by
 exact ⟨Int.emod_nonneg _ b_34, by have := Int.emod_lt_of_pos x (show (0 : Int) < n by omega); omega⟩
set_option maxHeartbeats 1000000 in
theorem C_spec_l1Below (w : World) (B : Nat) (n : Int) (hc : CurT w B) (h1 : 1 ≤ n) (h2 : n ≤ 1000000000) :
  Calls Try.prog 69 #[pB B, .int .i64 n] w (RetDT B w (DrI 0 (n - 1))) := by
 have q0 : decide (n ≤ 0) = false := by simp; omega
 have qn : (n == 0) = false := by rw [beq_eq_false_iff_ne]; omega
 by_cases hle : n ≤ 256
 ·go_enter Try.func69, Try.ntmps69
  go_wp2_with fail
  refine (C_spec_l1Byte _ B hc).mono ?_
  rintro e w1 ⟨hd1, hc1, x, rfl, hx0, hx1⟩
  have hr := rem_bd x n h1 hx0
  go_wp2
  go_ret
  exact ⟨hd1, hc1, _, rfl, hr.1, hr.2⟩
 ·go_enter Try.func69, Try.ntmps69
  go_wp2_with fail
  refine (C_spec_l1Byte _ B hc).mono ?_
  rintro e w1 ⟨hd1, hc1, x, rfl, hx0, hx1⟩
  go_wp2_with fail
  refine (C_spec_l1Byte _ B hc1).mono ?_
  rintro e w2 ⟨hd2, hc2, y, rfl, hy0, hy1⟩
  go_wp2_with fail
  refine (C_spec_l1Byte _ B hc2).mono ?_
  rintro e w3 ⟨hd3, hc3, z, rfl, hz0, hz1⟩
  have hr := rem_bd (x * 65536 + y * 256 + z) n h1 b_34
  go_wp2
  go_ret
  exact ⟨(hd1.trans hd2).trans hd3, hc3, _, rfl, hr.1, hr.2⟩
set_option maxHeartbeats 1000000 in
theorem C_spec_l1Once (w : World) (B : Nat) (n : Int) (hc : CurT w B) (h1 : 1 ≤ n) (h2 : n ≤ 1000000000) :
  Calls Try.prog 101 #[pB B, .int .i64 n] w (RetDT B w (fun e _ => ∃ b : Bool, e = .returned (.bool b))) := by
 go_enter Try.func101, Try.ntmps101
 go_wp2_with fail
 refine (C_spec_l1Below _ B n hc h1 h2).mono ?_
 rintro e w1 ⟨hd1, hc1, x, rfl, hx0, hx1⟩
 go_wp2
 go_ret
 exact ⟨hd1, hc1, _, rfl⟩
set_option maxHeartbeats 1000000 in
theorem C_spec_l1Str (w : World) (B : Nat) (v : Value) (l : List (List UInt8)) (hc : CurT w B) (h : (Ty.sl .str).rd (hide B w) [v] l) (h1 : 1 ≤ l.length) (h2 : l.length ≤ 256) :
  Calls Try.prog 140 #[pB B, v] w (RetDT B w (fun e _ => ∃ s ∈ l, e = .returned (vS s))) := by
 obtain ⟨A, c, rfl, hcl, hcm, hn⟩ := Ty.rd_sl h
 go_enter Try.func140, Try.ntmps140
 go_wp2_with fail
 refine (C_spec_l1Below _ B l.length hc b_34 b_34).mono ?_
 rintro e w1 ⟨hd1, hc1, x, rfl, hx0, hx1⟩
 obtain ⟨k, rfl⟩ : ∃ k : Nat, x = k := ⟨x.toNat, by omega⟩
 have hk : k < l.length := by omega
 obtain ⟨b, o, ds, rfl, hl, hcell, hrd⟩ := Ty.rd_at (rd_hide (Dr.rd hd1 h)) hk
 obtain ⟨rfl, hsl⟩ := hrd
 have e0 : w1.cell? ⟨b, o + k, none⟩ = some (vS l[k]) := by simpa [Ty.sz] using hcell 0 b_33
 clear hcell hl
 go_wp2
 go_ret
 exact ⟨hd1, hc1, _, List.getElem_mem hk, rfl⟩
set_option maxHeartbeats 1000000 in
theorem C_spec_l1Int (w : World) (B : Nat) (v : Value) (l : List Int) (hc : CurT w B) (h : (Ty.sl .int).rd (hide B w) [v] l) (h1 : 1 ≤ l.length) (h2 : l.length ≤ 256) :
  Calls Try.prog 103 #[pB B, v] w (RetDT B w (fun e _ => ∃ s ∈ l, e = .returned (.int .i64 s))) := by
 obtain ⟨A, c, rfl, hcl, hcm, hn⟩ := Ty.rd_sl h
 go_enter Try.func103, Try.ntmps103
 go_wp2_with fail
 refine (C_spec_l1Below _ B l.length hc b_34 b_34).mono ?_
 rintro e w1 ⟨hd1, hc1, x, rfl, hx0, hx1⟩
 obtain ⟨k, rfl⟩ : ∃ k : Nat, x = k := ⟨x.toNat, by omega⟩
 have hk : k < l.length := by omega
 obtain ⟨b, o, ds, rfl, hl, hcell, hrd⟩ := Ty.rd_at (rd_hide (Dr.rd hd1 h)) hk
 obtain ⟨rfl, hsl⟩ := hrd
 have e0 : w1.cell? ⟨b, o + k, none⟩ = some (.int .i64 l[k]) := by simpa [Ty.sz] using hcell 0 b_33
 clear hcell hl
 go_wp2
 go_ret
 exact ⟨hd1, hc1, _, List.getElem_mem hk, rfl⟩
def spl (c : UInt8) : List UInt8 → List (List UInt8)
 | [] => [[]]
 | b :: l => if b = c then [] :: spl c l else match spl c l with
  | h :: t => (b :: h) :: t
  | [] => [[b]]
theorem spl_ne (c : UInt8) (l : List UInt8) : spl c l ≠ [] := by
  cases l with
  | nil => simp [spl]
  | cons b l => unfold spl; split; · simp
                split <;> simp
theorem spl_pos (c : UInt8) (s : List UInt8) : 0 < (spl c s).length := List.length_pos_iff.2 (spl_ne c s)
theorem spl_notin {c : UInt8} : ∀ {a : List UInt8}, c ∉ a → spl c a = [a]
 | [], _ => rfl
 | b :: a, h => by
  have h1 : b ≠ c := fun e => h (by simp [e])
  have h2 : c ∉ a := fun e => h (by simp [e])
  unfold spl; rw [if_neg h1, spl_notin h2]
theorem spl_app {c : UInt8} (r : List UInt8) : ∀ {a : List UInt8}, c ∉ a → spl c (a ++ c :: r) = a :: spl c r
 | [], _ => by show spl c (c :: r) = _; rw [spl]; simp
 | b :: a, h => by
  have h1 : b ≠ c := fun e => h (by simp [e])
  have h2 : c ∉ a := fun e => h (by simp [e])
  show spl c (b :: (a ++ c :: r)) = _
  rw [spl, if_neg h1, spl_app r h2]
def pnS (s : List UInt8) : List (List UInt8) × Bool :=
 if s = [47] then ([], true) else if decide (2 ≤ (spl 47 s).length) && decide ((spl 47 s).head? = some []) && validName (spl 47 s).tail then ((spl 47 s).tail, true) else ([], false)
theorem pnS_one {s : List UInt8} (h : s = [47]) : pnS s = ([], true) := by unfold pnS; rw [if_pos h]
theorem pnS_no {s : List UInt8} (h : ¬ s = [47]) (h2 : (decide (2 ≤ (spl 47 s).length) && decide ((spl 47 s).head? = some []) && validName (spl 47 s).tail) = false) : pnS s = ([], false) := by unfold pnS; rw [if_neg h, h2]; rfl
theorem pnS_yes {s : List UInt8} (h : ¬ s = [47]) (h2 : (decide (2 ≤ (spl 47 s).length) && decide ((spl 47 s).head? = some []) && validName (spl 47 s).tail) = true) : pnS s = ((spl 47 s).tail, true) := by unfold pnS; rw [if_neg h, if_pos h2]
end Go.Proofs.Ytldgbnlcnlfmeaa
