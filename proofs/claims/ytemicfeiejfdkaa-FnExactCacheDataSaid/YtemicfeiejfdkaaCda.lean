/- Data are cached: the reference. Printed by gen37.py. -/
import Derived.Test.YtemicfeiejfdkaaCdi
namespace Go.Proofs.Ytemicfeiejfdkaa
open Go.RowKit
set_option linter.unusedVariables false
set_option linter.unusedSimpArgs false

def lenAt (w : World) (g : Nat) : Nat := match w.cell? ⟨g, 1, none⟩ with | some (.slice _ n _) => n | _ => 0
theorem lenAt_of {w : World} {g n c : Nat} {A : Option Addr} (h : w.cell? ⟨g, 1, none⟩ = some (.slice A n c)) : lenAt w g = n := by unfold lenAt; rw [h]
theorem keepE_dropAt {p : Ty.D tCacheEntry → Bool} {l : List (Ty.D tCacheEntry)} {k : Nat} (h : k < l.length) (hp : p l[k] = false) : keepE p (dropAt l k) = keepE p l := by
  unfold keepE dropAt
  have h2 : l = l.take k ++ l[k] :: l.drop (k + 1) := by rw [List.getElem_cons_drop, List.take_append_drop]
  conv => rhs; rw [h2]
  rw [List.filter_append, List.filter_append, List.filter_cons, hp]
  simp
theorem keepE_none {n : List (List UInt8)} {l : List (Ty.D tCacheEntry)} (h : l.any (entName n) = false) : keepE (notName n) l = l := by
  unfold keepE
  refine List.filter_eq_self.2 (fun a ha => ?_)
  rw [List.any_eq_false] at h
  unfold notName
  simpa using h a ha
set_option maxRecDepth 100000 in
set_option maxHeartbeats 4000000 in
theorem C_spec_CacheData (w : World) (cs1 : List Value) (x : Ty.D tContentStore) (cs2 : List Value) (d : Ty.D tData) (now : Int) (h1 : Ty.rd w tContentStore cs1 x) (h2 : Ty.rd w tData cs2 d) (s0 : Ty.bulk tContentStore x ≤ 1048576) (s1 : Ty.bulk tData d ≤ 1048576) (i2 : -9223372036854775808 ≤ now ∧ now ≤ 9223372036854775807) :
    Calls Try.prog 44 #[.agg cs1.toArray, .agg cs2.toArray, .int .i64 now] w (RetAgg w tContentStore (f_CacheData x d now)) := by
  have h1' := h1
  have h2' := h2
  obtain ⟨Ax1, cx1, rfl, xg0, xg1⟩ := rd_ContentStore h1
  obtain ⟨Ad0, cd0, Ad1, cd1, Ad2, cd2, rfl, dg0, dg1, dg2, dg3, dg4⟩ := rd_Data h2
  have s0e := store_bulk' s0
  have hxl := Ty.bulk_len s0e
  have hbk : Ty.bulk tData d ≤ 1000000000 := Nat.le_trans s1 (by decide)
  have hF : f_CacheData x d now = if decide (x.1 < 1) = true ∨ f_ValidData d = false then x else (x.1, cacheE x d now) := rfl
  generalize f_CacheData x d now = F at hF ⊢
  have HF := Lib.hid hF
  clear hF
  have kb0_0 : (((w.alloc (.cells #[.int .i64 x.1, .slice Ax1 (List.length x.2) cx1] 24)).alloc (.cells #[.slice Ad0 (List.length d.1) cd0, .slice Ad1 (List.length d.2.1) cd1, .slice Ad2 (List.length d.2.2.1) cd2, .int .i64 d.2.2.2.1, .int .i64 d.2.2.2.2] 50)).alloc (.cells #[.int .i64 0, .slice none 0 0] 24)).cell? ⟨w.heap.size, 0, none⟩ = some (.int .i64 x.1) := ((World.cell?_alloc_lt _ _ _ (by simp only [World.size_alloc]; omega)).trans ((World.cell?_alloc_lt _ _ _ (by simp only [World.size_alloc]; omega)).trans (cell_new w _ _ 0 (by first | rfl | simp only [World.size_alloc]))))
  have kb0_1 : (((w.alloc (.cells #[.int .i64 x.1, .slice Ax1 (List.length x.2) cx1] 24)).alloc (.cells #[.slice Ad0 (List.length d.1) cd0, .slice Ad1 (List.length d.2.1) cd1, .slice Ad2 (List.length d.2.2.1) cd2, .int .i64 d.2.2.2.1, .int .i64 d.2.2.2.2] 50)).alloc (.cells #[.int .i64 0, .slice none 0 0] 24)).cell? ⟨w.heap.size, 1, none⟩ = some (.slice Ax1 (List.length x.2) cx1) := ((World.cell?_alloc_lt _ _ _ (by simp only [World.size_alloc]; omega)).trans ((World.cell?_alloc_lt _ _ _ (by simp only [World.size_alloc]; omega)).trans (cell_new w _ _ 1 (by first | rfl | simp only [World.size_alloc]))))
  have kb1_0 : (((w.alloc (.cells #[.int .i64 x.1, .slice Ax1 (List.length x.2) cx1] 24)).alloc (.cells #[.slice Ad0 (List.length d.1) cd0, .slice Ad1 (List.length d.2.1) cd1, .slice Ad2 (List.length d.2.2.1) cd2, .int .i64 d.2.2.2.1, .int .i64 d.2.2.2.2] 50)).alloc (.cells #[.int .i64 0, .slice none 0 0] 24)).cell? ⟨w.heap.size + 1, 0, none⟩ = some (.slice Ad0 (List.length d.1) cd0) := ((World.cell?_alloc_lt _ _ _ (by simp only [World.size_alloc]; omega)).trans (cell_new (w.alloc (.cells #[.int .i64 x.1, .slice Ax1 (List.length x.2) cx1] 24)) _ _ 0 (by first | rfl | simp only [World.size_alloc])))
  have kb1_1 : (((w.alloc (.cells #[.int .i64 x.1, .slice Ax1 (List.length x.2) cx1] 24)).alloc (.cells #[.slice Ad0 (List.length d.1) cd0, .slice Ad1 (List.length d.2.1) cd1, .slice Ad2 (List.length d.2.2.1) cd2, .int .i64 d.2.2.2.1, .int .i64 d.2.2.2.2] 50)).alloc (.cells #[.int .i64 0, .slice none 0 0] 24)).cell? ⟨w.heap.size + 1, 1, none⟩ = some (.slice Ad1 (List.length d.2.1) cd1) := ((World.cell?_alloc_lt _ _ _ (by simp only [World.size_alloc]; omega)).trans (cell_new (w.alloc (.cells #[.int .i64 x.1, .slice Ax1 (List.length x.2) cx1] 24)) _ _ 1 (by first | rfl | simp only [World.size_alloc])))
  have kb1_2 : (((w.alloc (.cells #[.int .i64 x.1, .slice Ax1 (List.length x.2) cx1] 24)).alloc (.cells #[.slice Ad0 (List.length d.1) cd0, .slice Ad1 (List.length d.2.1) cd1, .slice Ad2 (List.length d.2.2.1) cd2, .int .i64 d.2.2.2.1, .int .i64 d.2.2.2.2] 50)).alloc (.cells #[.int .i64 0, .slice none 0 0] 24)).cell? ⟨w.heap.size + 1, 2, none⟩ = some (.slice Ad2 (List.length d.2.2.1) cd2) := ((World.cell?_alloc_lt _ _ _ (by simp only [World.size_alloc]; omega)).trans (cell_new (w.alloc (.cells #[.int .i64 x.1, .slice Ax1 (List.length x.2) cx1] 24)) _ _ 2 (by first | rfl | simp only [World.size_alloc])))
  have kb1_3 : (((w.alloc (.cells #[.int .i64 x.1, .slice Ax1 (List.length x.2) cx1] 24)).alloc (.cells #[.slice Ad0 (List.length d.1) cd0, .slice Ad1 (List.length d.2.1) cd1, .slice Ad2 (List.length d.2.2.1) cd2, .int .i64 d.2.2.2.1, .int .i64 d.2.2.2.2] 50)).alloc (.cells #[.int .i64 0, .slice none 0 0] 24)).cell? ⟨w.heap.size + 1, 3, none⟩ = some (.int .i64 d.2.2.2.1) := ((World.cell?_alloc_lt _ _ _ (by simp only [World.size_alloc]; omega)).trans (cell_new (w.alloc (.cells #[.int .i64 x.1, .slice Ax1 (List.length x.2) cx1] 24)) _ _ 3 (by first | rfl | simp only [World.size_alloc])))
  have kb1_4 : (((w.alloc (.cells #[.int .i64 x.1, .slice Ax1 (List.length x.2) cx1] 24)).alloc (.cells #[.slice Ad0 (List.length d.1) cd0, .slice Ad1 (List.length d.2.1) cd1, .slice Ad2 (List.length d.2.2.1) cd2, .int .i64 d.2.2.2.1, .int .i64 d.2.2.2.2] 50)).alloc (.cells #[.int .i64 0, .slice none 0 0] 24)).cell? ⟨w.heap.size + 1, 4, none⟩ = some (.int .i64 d.2.2.2.2) := ((World.cell?_alloc_lt _ _ _ (by simp only [World.size_alloc]; omega)).trans (cell_new (w.alloc (.cells #[.int .i64 x.1, .slice Ax1 (List.length x.2) cx1] 24)) _ _ 4 (by first | rfl | simp only [World.size_alloc])))
  have kb2_0 : (((w.alloc (.cells #[.int .i64 x.1, .slice Ax1 (List.length x.2) cx1] 24)).alloc (.cells #[.slice Ad0 (List.length d.1) cd0, .slice Ad1 (List.length d.2.1) cd1, .slice Ad2 (List.length d.2.2.1) cd2, .int .i64 d.2.2.2.1, .int .i64 d.2.2.2.2] 50)).alloc (.cells #[.int .i64 0, .slice none 0 0] 24)).cell? ⟨w.heap.size + 1 + 1, 0, none⟩ = some (.int .i64 0) := (cell_new ((w.alloc (.cells #[.int .i64 x.1, .slice Ax1 (List.length x.2) cx1] 24)).alloc (.cells #[.slice Ad0 (List.length d.1) cd0, .slice Ad1 (List.length d.2.1) cd1, .slice Ad2 (List.length d.2.2.1) cd2, .int .i64 d.2.2.2.1, .int .i64 d.2.2.2.2] 50)) _ _ 0 (by first | rfl | simp only [World.size_alloc]))
  have kb2_1 : (((w.alloc (.cells #[.int .i64 x.1, .slice Ax1 (List.length x.2) cx1] 24)).alloc (.cells #[.slice Ad0 (List.length d.1) cd0, .slice Ad1 (List.length d.2.1) cd1, .slice Ad2 (List.length d.2.2.1) cd2, .int .i64 d.2.2.2.1, .int .i64 d.2.2.2.2] 50)).alloc (.cells #[.int .i64 0, .slice none 0 0] 24)).cell? ⟨w.heap.size + 1 + 1, 1, none⟩ = some (.slice none 0 0) := (cell_new ((w.alloc (.cells #[.int .i64 x.1, .slice Ax1 (List.length x.2) cx1] 24)).alloc (.cells #[.slice Ad0 (List.length d.1) cd0, .slice Ad1 (List.length d.2.1) cd1, .slice Ad2 (List.length d.2.2.1) cd2, .int .i64 d.2.2.2.1, .int .i64 d.2.2.2.2] 50)) _ _ 1 (by first | rfl | simp only [World.size_alloc]))
  have hvb : Below w.heap.size w (((w.alloc (.cells #[.int .i64 x.1, .slice Ax1 (List.length x.2) cx1] 24)).alloc (.cells #[.slice Ad0 (List.length d.1) cd0, .slice Ad1 (List.length d.2.1) cd1, .slice Ad2 (List.length d.2.2.1) cd2, .int .i64 d.2.2.2.1, .int .i64 d.2.2.2.2] 50)).alloc (.cells #[.int .i64 0, .slice none 0 0] 24)) := (by repeat' (first | (with_reducible exact Below.refl _ _) | (with_reducible assumption) | (with_reducible refine bel_set ?_ (by (try dsimp only); omega) _) | (with_reducible refine bel_alloc ?_ _) | (with_reducible refine bel_drewN ?_ _) | (with_reducible refine bel_drew ?_)))
  have zb0 := Lib.hid (show (((w.alloc (.cells #[.int .i64 x.1, .slice Ax1 (List.length x.2) cx1] 24)).alloc (.cells #[.slice Ad0 (List.length d.1) cd0, .slice Ad1 (List.length d.2.1) cd1, .slice Ad2 (List.length d.2.2.1) cd2, .int .i64 d.2.2.2.1, .int .i64 d.2.2.2.2] 50)).alloc (.cells #[.int .i64 0, .slice none 0 0] 24)).heap.size = w.heap.size + 1 + 1 + 1 from by simp only [World.size_alloc])
  have zb : w.heap.size + 1 + 1 < (((w.alloc (.cells #[.int .i64 x.1, .slice Ax1 (List.length x.2) cx1] 24)).alloc (.cells #[.slice Ad0 (List.length d.1) cd0, .slice Ad1 (List.length d.2.1) cd1, .slice Ad2 (List.length d.2.2.1) cd2, .int .i64 d.2.2.2.1, .int .i64 d.2.2.2.2] 50)).alloc (.cells #[.int .i64 0, .slice none 0 0] 24)).heap.size := by simp only [World.size_alloc]; omega
  have hB0 : Blk (((w.alloc (.cells #[.int .i64 x.1, .slice Ax1 (List.length x.2) cx1] 24)).alloc (.cells #[.slice Ad0 (List.length d.1) cd0, .slice Ad1 (List.length d.2.1) cd1, .slice Ad2 (List.length d.2.2.1) cd2, .int .i64 d.2.2.2.1, .int .i64 d.2.2.2.2] 50)).alloc (.cells #[.int .i64 0, .slice none 0 0] 24)) w.heap.size 24 #[.int .i64 x.1, .slice Ax1 (List.length x.2) cx1] := ((Blk.new w _ _).alloc _).alloc _
  have hD0 : Blk (((w.alloc (.cells #[.int .i64 x.1, .slice Ax1 (List.length x.2) cx1] 24)).alloc (.cells #[.slice Ad0 (List.length d.1) cd0, .slice Ad1 (List.length d.2.1) cd1, .slice Ad2 (List.length d.2.2.1) cd2, .int .i64 d.2.2.2.1, .int .i64 d.2.2.2.2] 50)).alloc (.cells #[.int .i64 0, .slice none 0 0] 24)) (w.heap.size + 1) 50 #[.slice Ad0 (List.length d.1) cd0, .slice Ad1 (List.length d.2.1) cd1, .slice Ad2 (List.length d.2.2.1) cd2, .int .i64 d.2.2.2.1, .int .i64 d.2.2.2.2] := Blk.alloc (by have := Blk.new (w.alloc (.cells #[.int .i64 x.1, .slice Ax1 (List.length x.2) cx1] 24)) 50 #[.slice Ad0 (List.length d.1) cd0, .slice Ad1 (List.length d.2.1) cd1, .slice Ad2 (List.length d.2.2.1) cd2, .int .i64 d.2.2.2.1, .int .i64 d.2.2.2.2]; rwa [World.size_alloc] at this) _
  have hR0 : Blk (((w.alloc (.cells #[.int .i64 x.1, .slice Ax1 (List.length x.2) cx1] 24)).alloc (.cells #[.slice Ad0 (List.length d.1) cd0, .slice Ad1 (List.length d.2.1) cd1, .slice Ad2 (List.length d.2.2.1) cd2, .int .i64 d.2.2.2.1, .int .i64 d.2.2.2.2] 50)).alloc (.cells #[.int .i64 0, .slice none 0 0] 24)) (w.heap.size + 1 + 1) 24 #[.int .i64 0, .slice none 0 0] := by have := Blk.new ((w.alloc (.cells #[.int .i64 x.1, .slice Ax1 (List.length x.2) cx1] 24)).alloc (.cells #[.slice Ad0 (List.length d.1) cd0, .slice Ad1 (List.length d.2.1) cd1, .slice Ad2 (List.length d.2.2.1) cd2, .int .i64 d.2.2.2.1, .int .i64 d.2.2.2.2] 50)) 24 #[.int .i64 0, .slice none 0 0]; rwa [World.size_alloc, World.size_alloc] at this
  go_enter Try.func44, Try.ntmps44
  go_wp2_with fail
  generalize (((w.alloc (.cells #[.int .i64 x.1, .slice Ax1 (List.length x.2) cx1] 24)).alloc (.cells #[.slice Ad0 (List.length d.1) cd0, .slice Ad1 (List.length d.2.1) cd1, .slice Ad2 (List.length d.2.2.1) cd2, .int .i64 d.2.2.2.1, .int .i64 d.2.2.2.2] 50)).alloc (.cells #[.int .i64 0, .slice none 0 0] 24)) = WX at hB0 hD0 hR0 kb0_0 kb0_1 kb1_0 kb1_1 kb1_2 kb1_3 kb1_4 kb2_0 kb2_1 hvb zb zb0 ⊢
  have HC : Hid (∀ V, Below WX.heap.size WX V → V.cell? ⟨w.heap.size, 0, none⟩ = some (.int .i64 x.1) ∧ V.cell? ⟨w.heap.size, 1, none⟩ = some (.slice Ax1 (List.length x.2) cx1) ∧ V.cell? ⟨w.heap.size + 1, 0, none⟩ = some (.slice Ad0 (List.length d.1) cd0) ∧ V.cell? ⟨w.heap.size + 1, 1, none⟩ = some (.slice Ad1 (List.length d.2.1) cd1) ∧ V.cell? ⟨w.heap.size + 1, 2, none⟩ = some (.slice Ad2 (List.length d.2.2.1) cd2) ∧ V.cell? ⟨w.heap.size + 1, 3, none⟩ = some (.int .i64 d.2.2.2.1) ∧ V.cell? ⟨w.heap.size + 1, 4, none⟩ = some (.int .i64 d.2.2.2.2) ∧ V.cell? ⟨w.heap.size + 1 + 1, 0, none⟩ = some (.int .i64 0) ∧ V.cell? ⟨w.heap.size + 1 + 1, 1, none⟩ = some (.slice none 0 0)) := fun V hW => ⟨(hW.cell (p := ⟨w.heap.size, 0, none⟩) (by dsimp only; omega)).trans kb0_0, (hW.cell (p := ⟨w.heap.size, 1, none⟩) (by dsimp only; omega)).trans kb0_1, (hW.cell (p := ⟨w.heap.size + 1, 0, none⟩) (by dsimp only; omega)).trans kb1_0, (hW.cell (p := ⟨w.heap.size + 1, 1, none⟩) (by dsimp only; omega)).trans kb1_1, (hW.cell (p := ⟨w.heap.size + 1, 2, none⟩) (by dsimp only; omega)).trans kb1_2, (hW.cell (p := ⟨w.heap.size + 1, 3, none⟩) (by dsimp only; omega)).trans kb1_3, (hW.cell (p := ⟨w.heap.size + 1, 4, none⟩) (by dsimp only; omega)).trans kb1_4, (hW.cell (p := ⟨w.heap.size + 1 + 1, 0, none⟩) (by dsimp only; omega)).trans kb2_0, (hW.cell (p := ⟨w.heap.size + 1 + 1, 1, none⟩) (by dsimp only; omega)).trans kb2_1⟩
  clear kb0_0 kb0_1 kb1_0 kb1_1 kb1_2 kb1_3 kb1_4 kb2_0 kb2_1
  have hks := C_spec_l12CopyR WX [.int .i64 x.1, .slice Ax1 (List.length x.2) cx1] x (Ty.rd_below hvb h1') s0
  rw [keep_all] at hks
  refine hks.mono ?_
  rintro e w1 ⟨v1, rfl, hr1, hb1⟩
  clear hks
  obtain ⟨A1, c1, hv1⟩ := hr1.form
  subst hv1
  obtain ⟨fp1, hf1, hfr1⟩ := hr1.toF
  have hzz1 := hb1.size
  have hB1 := hB0.below hb1 hB0.lt
  have hD1 := hD0.below hb1 hD0.lt
  have hR1 := hR0.below hb1 hR0.lt
  have kB1 : w1.cell? ⟨w.heap.size, 0, none⟩ = some (.int .i64 x.1) := hB1.cell 0
  have zB1 : w.heap.size < w1.heap.size := by omega
  have kD1_0 : w1.cell? ⟨w.heap.size + 1, 0, none⟩ = some (.slice Ad0 (List.length d.1) cd0) := hD1.cell 0
  have kD1_1 : w1.cell? ⟨w.heap.size + 1, 1, none⟩ = some (.slice Ad1 (List.length d.2.1) cd1) := hD1.cell 1
  have kD1_2 : w1.cell? ⟨w.heap.size + 1, 2, none⟩ = some (.slice Ad2 (List.length d.2.2.1) cd2) := hD1.cell 2
  have kD1_3 : w1.cell? ⟨w.heap.size + 1, 3, none⟩ = some (.int .i64 d.2.2.2.1) := hD1.cell 3
  have kD1_4 : w1.cell? ⟨w.heap.size + 1, 4, none⟩ = some (.int .i64 d.2.2.2.2) := hD1.cell 4
  have zD1 : w.heap.size + 1 < w1.heap.size := by omega
  have hO0 : Blk (w1.alloc (.cells #[.int .i64 x.1, .slice A1 (List.length x.2) c1] 24)) w1.heap.size 24 #[.int .i64 x.1, .slice A1 (List.length x.2) c1] := Blk.new _ _ _
  have hvo : Below w1.heap.size w1 (w1.alloc (.cells #[.int .i64 x.1, .slice A1 (List.length x.2) c1] 24)) := (by repeat' (first | (with_reducible exact Below.refl _ _) | (with_reducible assumption) | (with_reducible refine bel_set ?_ (by (try dsimp only); omega) _) | (with_reducible refine bel_alloc ?_ _) | (with_reducible refine bel_drewN ?_ _) | (with_reducible refine bel_drew ?_)))
  by_cases hc : x.1 < 1
  · have q0 : decide (x.1 < 1) = true := decide_eq_true hc
    have HZ := Lib.hid (show F = x from by rw [HF.out, if_pos (Or.inl q0)])
    have HB1 := Lib.hid hB1
    have HR1_ := Lib.hid hr1
    clear hc
    have hv00 : Below ((w1.alloc (.cells #[.int .i64 x.1, .slice A1 (List.length x.2) c1] 24))).heap.size (w1.alloc (.cells #[.int .i64 x.1, .slice A1 (List.length x.2) c1] 24)) (w1.alloc (.cells #[.int .i64 x.1, .slice A1 (List.length x.2) c1] 24)) := Below.refl _ _
    have hO8 := hO0.below hv00 hO0.lt
    have hR8 := (hR1.below hvo hR1.lt).below hv00 (hR1.below hvo hR1.lt).lt
    have kR_8_0 : (w1.alloc (.cells #[.int .i64 x.1, .slice A1 (List.length x.2) c1] 24)).cell? ⟨w.heap.size + 1 + 1, 0, none⟩ = some (.int .i64 0) := hR8.cell 0
    have fR_8_0 : (w1.alloc (.cells #[.int .i64 x.1, .slice A1 (List.length x.2) c1] 24)).frozen? ⟨w.heap.size + 1 + 1, 0, none⟩ = false := hR8.frozen 0
    have kR_8_1 : (w1.alloc (.cells #[.int .i64 x.1, .slice A1 (List.length x.2) c1] 24)).cell? ⟨w.heap.size + 1 + 1, 1, none⟩ = some (.slice none 0 0) := hR8.cell 1
    have fR_8_1 : (w1.alloc (.cells #[.int .i64 x.1, .slice A1 (List.length x.2) c1] 24)).frozen? ⟨w.heap.size + 1 + 1, 1, none⟩ = false := hR8.frozen 1
    have zR_8 : w.heap.size + 1 + 1 < (w1.alloc (.cells #[.int .i64 x.1, .slice A1 (List.length x.2) c1] 24)).heap.size := hR8.lt
    have kO_8_0 : (w1.alloc (.cells #[.int .i64 x.1, .slice A1 (List.length x.2) c1] 24)).cell? ⟨w1.heap.size, 0, none⟩ = some (.int .i64 x.1) := hO8.cell 0
    have fO_8_0 : (w1.alloc (.cells #[.int .i64 x.1, .slice A1 (List.length x.2) c1] 24)).frozen? ⟨w1.heap.size, 0, none⟩ = false := hO8.frozen 0
    have kO_8_1 : (w1.alloc (.cells #[.int .i64 x.1, .slice A1 (List.length x.2) c1] 24)).cell? ⟨w1.heap.size, 1, none⟩ = some (.slice A1 (List.length x.2) c1) := hO8.cell 1
    have fO_8_1 : (w1.alloc (.cells #[.int .i64 x.1, .slice A1 (List.length x.2) c1] 24)).frozen? ⟨w1.heap.size, 1, none⟩ = false := hO8.frozen 1
    have zO_8 : w1.heap.size < (w1.alloc (.cells #[.int .i64 x.1, .slice A1 (List.length x.2) c1] 24)).heap.size := hO8.lt
    have hn5 : w1.heap.size ≠ w.heap.size + 1 + 1 := by omega
    have hn6 : w.heap.size + 1 + 1 ≠ w1.heap.size := by omega
    have hw8 : Below w.heap.size w (w1.alloc (.cells #[.int .i64 x.1, .slice A1 (List.length x.2) c1] 24)) := bel_trans hvb (bel_trans hb1 (bel_trans hvo hv00))
    have hr8 := (hr1.below hvo).below hv00
    have HR8 := Lib.hid hr8
    clear hr8
    go_wp2
    refine bodyPost_ret (v := .agg #[.int .i64 x.1, .slice A1 (List.length x.2) c1]) (by simp [results, Try.results44, go_sem, kR_8_0, fR_8_0, kR_8_1, fR_8_1, kO_8_0, fO_8_0, kO_8_1, fO_8_1, zR_8, zO_8, hn5, hn6]) rfl ?_
    rw [HZ.out]
    exact RetStore.agg (x := x) xg0 ⟨_, rfl, ((HR8.out.far (p := ⟨w.heap.size + 1 + 1, 0, none⟩) (by dsimp only; omega) _).far (p := ⟨w.heap.size + 1 + 1, 1, none⟩) (by dsimp only; omega) _).mono (by omega), (by repeat' (first | (with_reducible exact Below.refl _ _) | (with_reducible assumption) | (with_reducible refine bel_set ?_ (by (try dsimp only); omega) _) | (with_reducible refine bel_alloc ?_ _) | (with_reducible refine bel_drewN ?_ _) | (with_reducible refine bel_drew ?_)))⟩
  have q0 : decide (x.1 < 1) = false := decide_eq_false hc
  go_wp2_with fail
  clear q0
  generalize (w1.alloc (.cells #[.int .i64 x.1, .slice A1 (List.length x.2) c1] 24)) = WO at hO0 hvo ⊢
  refine (C_spec_ValidData _ _ d (Ty.rd_below (bel_trans hvb (bel_trans hb1 hvo)) h2') s1).mono ?_
  rintro e w2 ⟨rfl, hb2⟩
  clear kB1 zB1 kD1_0 kD1_1 kD1_2 kD1_3 kD1_4 zD1
  cases q1 : f_ValidData d
  · have HZ := Lib.hid (show F = x from by rw [HF.out, if_pos (Or.inr q1)])
    have hO8 := hO0.below hb2 hO0.lt
    have hR8 := (hR1.below hvo hR1.lt).below hb2 (hR1.below hvo hR1.lt).lt
    have kR_8_0 : w2.cell? ⟨w.heap.size + 1 + 1, 0, none⟩ = some (.int .i64 0) := hR8.cell 0
    have fR_8_0 : w2.frozen? ⟨w.heap.size + 1 + 1, 0, none⟩ = false := hR8.frozen 0
    have kR_8_1 : w2.cell? ⟨w.heap.size + 1 + 1, 1, none⟩ = some (.slice none 0 0) := hR8.cell 1
    have fR_8_1 : w2.frozen? ⟨w.heap.size + 1 + 1, 1, none⟩ = false := hR8.frozen 1
    have zR_8 : w.heap.size + 1 + 1 < w2.heap.size := hR8.lt
    have kO_8_0 : w2.cell? ⟨w1.heap.size, 0, none⟩ = some (.int .i64 x.1) := hO8.cell 0
    have fO_8_0 : w2.frozen? ⟨w1.heap.size, 0, none⟩ = false := hO8.frozen 0
    have kO_8_1 : w2.cell? ⟨w1.heap.size, 1, none⟩ = some (.slice A1 (List.length x.2) c1) := hO8.cell 1
    have fO_8_1 : w2.frozen? ⟨w1.heap.size, 1, none⟩ = false := hO8.frozen 1
    have zO_8 : w1.heap.size < w2.heap.size := hO8.lt
    have hn5 : w1.heap.size ≠ w.heap.size + 1 + 1 := by omega
    have hn6 : w.heap.size + 1 + 1 ≠ w1.heap.size := by omega
    have hw8 : Below w.heap.size w w2 := bel_trans hvb (bel_trans hb1 (bel_trans hvo hb2))
    have hr8 := (hr1.below hvo).below hb2
    have HR8 := Lib.hid hr8
    clear hr8
    go_wp2
    refine bodyPost_ret (v := .agg #[.int .i64 x.1, .slice A1 (List.length x.2) c1]) (by simp [results, Try.results44, go_sem, kR_8_0, fR_8_0, kR_8_1, fR_8_1, kO_8_0, fO_8_0, kO_8_1, fO_8_1, zR_8, zO_8, hn5, hn6]) rfl ?_
    rw [HZ.out]
    exact RetStore.agg (x := x) xg0 ⟨_, rfl, ((HR8.out.far (p := ⟨w.heap.size + 1 + 1, 0, none⟩) (by dsimp only; omega) _).far (p := ⟨w.heap.size + 1 + 1, 1, none⟩) (by dsimp only; omega) _).mono (by omega), (by repeat' (first | (with_reducible exact Below.refl _ _) | (with_reducible assumption) | (with_reducible refine bel_set ?_ (by (try dsimp only); omega) _) | (with_reducible refine bel_alloc ?_ _) | (with_reducible refine bel_drewN ?_ _) | (with_reducible refine bel_drew ?_)))⟩
  have HZ := Lib.hid (show F = (x.1, cacheE x d now) from by rw [HF.out, if_neg (by rw [q1]; simp; omega)])
  have h12 : Below w1.heap.size w1 w2 := bel_trans hvo hb2
  have hOp := hO0.below hb2 hO0.lt
  have hDp := hD1.below h12 hD1.lt
  have hRp := hR1.below h12 hR1.lt
  have hBp := hB1.below h12 hB1.lt
  have kO : w2.cell? ⟨w1.heap.size, 1, none⟩ = some (.slice A1 (List.length x.2) c1) := hOp.cell 1
  have zO : w1.heap.size < w2.heap.size := hOp.lt
  have kD : w2.cell? ⟨w.heap.size + 1, 0, none⟩ = some (.slice Ad0 (List.length d.1) cd0) := hDp.cell 0
  have zD : w.heap.size + 1 < w2.heap.size := hDp.lt
  have hrd := (hr1.below h12).rd
  go_wp2_with fail
  refine (C_spec_l12Find _ _ x.2 _ d.1 hrd (Ty.rd_below (bel_trans hvb (bel_trans hb1 h12)) dg0)).mono ?_
  rintro e w3 ⟨rfl, hb3⟩
  have hx3 : Below w1.heap.size w1 w3 := bel_trans h12 hb3
  have hO3 := hOp.below hb3 hOp.lt
  have hD3 := hD1.below hx3 hD1.lt
  have hR3 := hR1.below hx3 hR1.lt
  have hB3 := hB1.below hx3 hB1.lt
  have hno3 : ∀ g, (Value.slice A1 (List.length x.2) c1).ownBlock = some g → g ≠ w1.heap.size := fun g hg => by have := (hr1.block g hg).2; omega
  have HF3 := Lib.hid (hf1.below hx3)
  have hw3 : Below w.heap.size w w3 := bel_trans hvb (bel_trans hb1 hx3)
  clear hrd kO zO kD zD hf1 hr1 hOp hDp hRp hBp
  go_wp2
  go_loopw [8] (fun kk wr => ∃ (l : List (Ty.D tCacheEntry)) (vo : Value) (fpx : List Nat), kk = .int .i64 (ixf (entName d.1) l) ∧ Blk wr w1.heap.size 24 #[.int .i64 x.1, vo] ∧ Blk wr (w.heap.size + 1) 50 #[.slice Ad0 (List.length d.1) cd0, .slice Ad1 (List.length d.2.1) cd1, .slice Ad2 (List.length d.2.2.1) cd2, .int .i64 d.2.2.2.1, .int .i64 d.2.2.2.2] ∧ Blk wr (w.heap.size + 1 + 1) 24 #[.int .i64 0, .slice none 0 0] ∧ Blk wr w.heap.size 24 #[.int .i64 x.1, .slice Ax1 (List.length x.2) cx1] ∧ DRowF tCacheEntry wr WX.heap.size 91 vo l fpx ∧ FrI WX.heap.size w1.heap.size fpx ∧ (∀ g, vo.ownBlock = some g → g ≠ w1.heap.size) ∧ keepE (notName d.1) l = keepE (notName d.1) x.2 ∧ l.length ≤ List.length x.2 ∧ Below w.heap.size w wr) (fun _ wr => lenAt wr w1.heap.size)
  case atStart => exact ⟨x.2, _, fp1, rfl, hO3, hD3, hR3, hB3, HF3.out, hfr1, hno3, rfl, Nat.le_refl _, hw3⟩
  case round =>
    obtain ⟨l, vo, fpx, rfl, hO, hD, hR, hB, hrow, hfpx, hno, hke, hlx, hw⟩ := hrel
    obtain ⟨Av, cv, hv⟩ := hrow.form
    subst hv
    have HR := Lib.hid hrow
    have HKE := Lib.hid hke
    have HLX := Lib.hid hlx
    have hrdl := (hrow.drow (hfpx.mono (Nat.le_refl _) (by have := hO.lt; omega))).rd
    have HRD := Lib.hid hrdl
    clear hrow hke hlx hrdl
    have kO : wr.cell? ⟨w1.heap.size, 1, none⟩ = some (.slice Av (List.length l) cv) := hO.cell 1
    have fO : wr.frozen? ⟨w1.heap.size, 1, none⟩ = false := hO.frozen 1
    have zO : w1.heap.size < wr.heap.size := hO.lt
    have kD : wr.cell? ⟨w.heap.size + 1, 0, none⟩ = some (.slice Ad0 (List.length d.1) cd0) := hD.cell 0
    have zD : w.heap.size + 1 < wr.heap.size := hD.lt
    rcases ixf_cases (entName d.1) l with ⟨hi, hn⟩ | ⟨k, hlt, hi, ht, hq⟩
    rotate_left
    · rw [hi]
      have HDK := Lib.hid (keepE_dropAt (p := notName d.1) hlt (by unfold notName; rw [hq]; rfl))
      have hdl := dropAt_len hlt
      have hll := HLX.out
      clear hi ht hq
      go_wp2_with fail
      refine (C_spec_l12Without _ _ l k WX.heap.size fpx HR.out hlt (by omega) (by omega)).mono ?_
      rintro e w4 ⟨v4, fp4, rfl, hr4, hsub4, hown4, hb4⟩
      obtain ⟨n4, A4, c4, hv4⟩ : ∃ n A c, v4 = .slice A n c ∧ n = (dropAt l k).length := by obtain ⟨A, c, h⟩ := hr4.form; exact ⟨_, A, c, h, rfl⟩
      obtain ⟨hv4, hn4⟩ := hv4
      subst hv4
      have HN4 := Lib.hid hn4
      have HDL := Lib.hid hdl
      clear hn4 hdl
      have hno4 : ∀ g, (Value.slice A4 n4 c4).ownBlock = some g → g ≠ w1.heap.size := fun g hg => by have := hown4 g hg; omega
      have hfp4 := frI_sub hfpx hsub4
      have hO4 := hO.below hb4 hO.lt
      have hD4 := hD.below hb4 hD.lt
      have hR4 := hR.below hb4 hR.lt
      have hB4 := hB.below hb4 hB.lt
      have hw4 : Below w.heap.size w w4 := bel_trans hw hb4
      have HR4 := Lib.hid (hr4.far (p := ⟨w1.heap.size, 1, none⟩) (by dsimp only; intro hm; have := (hfp4.2 _ hm).2; omega) (fun g hg => hno4 g hg) (.slice A4 n4 c4))
      have hO5 := hO4.set_ 1 (.slice A4 n4 c4)
      have hD5 := hD4.far (p := ⟨w1.heap.size, 1, none⟩) (by dsimp only; omega) (.slice A4 n4 c4)
      have hR5 := hR4.far (p := ⟨w1.heap.size, 1, none⟩) (by dsimp only; omega) (.slice A4 n4 c4)
      have hB5 := hB4.far (p := ⟨w1.heap.size, 1, none⟩) (by dsimp only; omega) (.slice A4 n4 c4)
      have hw5 : Below w.heap.size w (w4.setCell ⟨w1.heap.size, 1, none⟩ (.slice A4 n4 c4)) := bel_set hw4 (by dsimp only; omega) _
      have kO4 : w4.cell? ⟨w1.heap.size, 1, none⟩ = some (.slice Av (List.length l) cv) := hO4.cell 1
      have fO4 : w4.frozen? ⟨w1.heap.size, 1, none⟩ = false := hO4.frozen 1
      have zO4 : w1.heap.size < w4.heap.size := hO4.lt
      have kD4 : w4.cell? ⟨w.heap.size + 1, 0, none⟩ = some (.slice Ad0 (List.length d.1) cd0) := hD4.cell 0
      have zD4 : w.heap.size + 1 < w4.heap.size := hD4.lt
      have hn5 : w1.heap.size ≠ w.heap.size + 1 := by omega
      have hn6 : w.heap.size + 1 ≠ w1.heap.size := by omega
      have hlen0 : lenAt wr w1.heap.size = l.length := lenAt_of kO
      have HL0 := Lib.hid hlen0
      clear hr4 hsub4 hown4 kO fO zO kD zD hlen0
      go_wp2_with fail
      generalize (w4.setCell ⟨w1.heap.size, 1, none⟩ (.slice A4 n4 c4)) = w5 at HR4 hO5 hD5 hR5 hB5 hw5 ⊢
      have hrd5 := (HR4.out.drow (hfp4.mono (Nat.le_refl _) (by have := hO5.lt; omega))).rd
      refine (C_spec_l12Find _ _ (dropAt l k) _ d.1 hrd5 (Ty.rd_below hw5 dg0)).mono ?_
      rintro e w7 ⟨rfl, hb7⟩
      have hO7 := hO5.below hb7 hO5.lt
      have HL7 := Lib.hid (lenAt_of (hO7.cell 1))
      have hw7 : Below w.heap.size w w7 := bel_trans hw5 hb7
      have hD7 := hD5.below hb7 hD5.lt
      have hR7 := hR5.below hb7 hR5.lt
      have hB7 := hB5.below hb7 hB5.lt
      have HR7 := Lib.hid (HR4.out.below hb7)
      clear hrd5 kO4 fO4 zO4 kD4 zD4
      go_wp2
      go_roundw
      case rel => exact ⟨dropAt l k, _, fp4, rfl, hO7, hD7, hR7, hB7, HR7.out, hfp4, hno4, by rw [HDK.out, HKE.out], by have := HLX.out; rw [HDL.out]; omega, hw7⟩
      case measure => rw [HL7.out, HL0.out, HN4.out, HDL.out]; omega
    rw [hi]
    have hkl : keepE (notName d.1) x.2 = l := by rw [← HKE.out]; exact keepE_none hn
    have HCE := Lib.hid (show cacheE x d now = roomFor x.1 l ++ [(d, now)] from by unfold cacheE; rw [hkl])
    have hll : l.length ≤ 1048576 := by have := HLX.out; omega
    clear hi hn hkl
    have kB : wr.cell? ⟨w.heap.size, 0, none⟩ = some (.int .i64 x.1) := hB.cell 0
    have zB : w.heap.size < wr.heap.size := hB.lt
    have kD1 : wr.cell? ⟨w.heap.size + 1, 1, none⟩ = some (.slice Ad1 (List.length d.2.1) cd1) := hD.cell 1
    have kD2 : wr.cell? ⟨w.heap.size + 1, 2, none⟩ = some (.slice Ad2 (List.length d.2.2.1) cd2) := hD.cell 2
    have kD3 : wr.cell? ⟨w.heap.size + 1, 3, none⟩ = some (.int .i64 d.2.2.2.1) := hD.cell 3
    have kD4 : wr.cell? ⟨w.heap.size + 1, 4, none⟩ = some (.int .i64 d.2.2.2.2) := hD.cell 4
    by_cases hcap : x.1 ≤ (l.length : Int)
    rotate_left
    · have q2 : decide (x.1 ≤ (l.length : Int)) = false := decide_eq_false hcap
      have HL2 := Lib.hid (show cacheE x d now = l ++ [(d, now)] from by rw [HCE.out]; unfold roomFor; rw [if_neg hcap])
      clear hcap
      go_wp2_with fail
      refine (C_spec_l8Copy _ _ d (Ty.rd_below hw h2') hbk).mono ?_
      rintro e w6 ⟨cs6, fp6, rfl, how6, hfr6, hb6⟩
      obtain ⟨Aq0, cq0, Aq1, cq1, Aq2, cq2, rfl⟩ := ow_Data how6
      have hz6 := hb6.size
      have kO6 : w6.cell? ⟨w1.heap.size, 1, none⟩ = some (.slice Av (List.length l) cv) := (hb6.cell (p := ⟨w1.heap.size, 1, none⟩) hO.lt).trans (hO.cell 1)
      have zO6 : w1.heap.size < w6.heap.size := Nat.lt_of_lt_of_le hO.lt hz6
      have zWr : w1.heap.size < wr.heap.size := hO.lt
      clear kD zD kD1 kD2 kD3 kD4 kB zB q2 kO fO zO
      go_wp2_with (at_builtin; go_loud (refine wpList_append_drowF (e := tCacheEntry) rfl _ _ 22 rfl WX.heap.size 91 info_CacheEntry rfl Try.underlying22 _ _ l [(d, now)] fpx fp6 (by rfl) (by rfl) (HR.out.below (by (repeat' (first | (with_reducible exact Below.refl _ _) | (with_reducible assumption) | (with_reducible refine bel_set ?_ (by (try dsimp only); omega) _) | (with_reducible refine bel_alloc ?_ _) | (with_reducible refine bel_drewN ?_ _) | (with_reducible refine bel_drew ?_) | (with_reducible refine bel_trans ?_ (by assumption)))); done)) (SrcF.lit 91 (ow_CacheEntry_mk (d := (d, now)) (Ty.ow_bel (by (repeat' (first | (with_reducible exact Below.refl _ _) | (with_reducible assumption) | (with_reducible refine bel_set ?_ (by (try dsimp only); omega) _) | (with_reducible refine bel_alloc ?_ _) | (with_reducible refine bel_drewN ?_ _) | (with_reducible refine bel_drew ?_) | (with_reducible refine bel_trans ?_ (by assumption)))); done) how6) i2) (by first | rfl | simp only [World.size_alloc])) (fun g hg hm => by have := (HR.out.block g hg).2; have := (hfr6.2 g hm).1; omega) (by rw [List.length_singleton]; omega) (by rw [List.length_singleton]; unfold maxLen; omega) (by (try simp only [World.size_alloc]); omega) ?_))
      intro v' w' hr' hg' ho'
      obtain ⟨nn, An, cn, hvn⟩ : ∃ n A c, v' = .slice A n c := by obtain ⟨A, c, h⟩ := hr'.form; exact ⟨_, A, c, h⟩
      subst hvn
      have hRn := grow_blk (w0 := wr) (by (repeat' (first | (with_reducible exact Below.refl _ _) | (with_reducible assumption) | (with_reducible refine bel_set ?_ (by (try dsimp only); omega) _) | (with_reducible refine bel_alloc ?_ _) | (with_reducible refine bel_drewN ?_ _) | (with_reducible refine bel_drew ?_) | (with_reducible refine bel_trans ?_ (by assumption)))); done) hg' hR (fun e => by have := (HR.out.block _ e.symm).1; omega)
      have hOn := grow_blk (w0 := wr) (by (repeat' (first | (with_reducible exact Below.refl _ _) | (with_reducible assumption) | (with_reducible refine bel_set ?_ (by (try dsimp only); omega) _) | (with_reducible refine bel_alloc ?_ _) | (with_reducible refine bel_drewN ?_ _) | (with_reducible refine bel_drew ?_) | (with_reducible refine bel_trans ?_ (by assumption)))); done) hg' hO (fun e => hno _ e.symm rfl)
      have hbn : Below w.heap.size w w' := grow_bel (bel_trans hw (by (repeat' (first | (with_reducible exact Below.refl _ _) | (with_reducible assumption) | (with_reducible refine bel_set ?_ (by (try dsimp only); omega) _) | (with_reducible refine bel_alloc ?_ _) | (with_reducible refine bel_drewN ?_ _) | (with_reducible refine bel_drew ?_) | (with_reducible refine bel_trans ?_ (by assumption)))); done)) hg' (fun g hg => by have := (HR.out.block g hg).1; omega)
      have hszn : w6.heap.size ≤ w'.heap.size := by have := hg'.size; (try simp only [World.size_alloc] at this); omega
      have hnon : ∀ g, (Value.slice An nn cn).ownBlock = some g → g ≠ w1.heap.size := fun g hg => by
        rcases ho' with ho' | ho'
        · rw [ho'] at hg; exact hno g hg
        · rw [ho'] at hg
          simp only [Option.some.injEq] at hg
          (try simp only [World.size_alloc] at hg)
          omega
      have hR8 := hRn
      have hO8 := hOn
      have kR_8_0 : w'.cell? ⟨w.heap.size + 1 + 1, 0, none⟩ = some (.int .i64 0) := hR8.cell 0
      have fR_8_0 : w'.frozen? ⟨w.heap.size + 1 + 1, 0, none⟩ = false := hR8.frozen 0
      have kR_8_1 : w'.cell? ⟨w.heap.size + 1 + 1, 1, none⟩ = some (.slice none 0 0) := hR8.cell 1
      have fR_8_1 : w'.frozen? ⟨w.heap.size + 1 + 1, 1, none⟩ = false := hR8.frozen 1
      have zR_8 : w.heap.size + 1 + 1 < w'.heap.size := hR8.lt
      have kO_8_0 : w'.cell? ⟨w1.heap.size, 0, none⟩ = some (.int .i64 x.1) := hO8.cell 0
      have fO_8_0 : w'.frozen? ⟨w1.heap.size, 0, none⟩ = false := hO8.frozen 0
      have kO_8_1 : w'.cell? ⟨w1.heap.size, 1, none⟩ = some (.slice Av (List.length l) cv) := hO8.cell 1
      have fO_8_1 : w'.frozen? ⟨w1.heap.size, 1, none⟩ = false := hO8.frozen 1
      have zO_8 : w1.heap.size < w'.heap.size := hO8.lt
      have hn5 : w1.heap.size ≠ w.heap.size + 1 + 1 := by omega
      have hn6 : w.heap.size + 1 + 1 ≠ w1.heap.size := by omega
      have hr9 := hr'.far (p := ⟨w1.heap.size, 1, none⟩) (by dsimp only; intro hm; rcases List.mem_append.1 hm with hm | hm; (have := hfpx.2 _ hm; omega); (have := (hfr6.2 _ hm).1; omega)) (fun g hg => hnon g hg) (.slice An nn cn)
      have hr10 := hr9.drow (FrI.app hfpx (hfr6.mono (show w1.heap.size ≤ _ by omega) (show _ ≤ (w'.setCell ⟨w1.heap.size, 1, none⟩ (.slice An nn cn)).heap.size by rw [World.size_setCell]; exact hszn)) (Nat.le_refl _) (by omega) (by rw [World.size_setCell]; omega))
      have HR10 := Lib.hid hr10
      clear hr' hr9 hr10 hg' ho' hRn hOn kO6 zO6
      go_wp2
      refine bodyPost_ret (v := .agg #[.int .i64 x.1, .slice An nn cn]) (by simp [results, Try.results44, go_sem, kR_8_0, fR_8_0, kR_8_1, fR_8_1, kO_8_0, fO_8_0, kO_8_1, fO_8_1, zR_8, zO_8, hn5, hn6]) rfl ?_
      rw [HZ.out, HL2.out]
      exact RetStore.agg (x := (x.1, l ++ [(d, now)])) xg0 ⟨_, rfl, ((HR10.out.far (p := ⟨w.heap.size + 1 + 1, 0, none⟩) (by dsimp only; omega) (.int .i64 x.1)).far (p := ⟨w.heap.size + 1 + 1, 1, none⟩) (by dsimp only; omega) (.slice An nn cn)).mono (by omega), (by repeat' (first | (with_reducible exact Below.refl _ _) | (with_reducible assumption) | (with_reducible refine bel_set ?_ (by (try dsimp only); omega) _) | (with_reducible refine bel_alloc ?_ _) | (with_reducible refine bel_drewN ?_ _) | (with_reducible refine bel_drew ?_)))⟩
    have q2 : decide (x.1 ≤ (l.length : Int)) = true := decide_eq_true hcap
    have hpos : 0 < l.length := by
      rcases Nat.eq_zero_or_pos l.length with h0 | h0
      · exfalso
        have h3 : x.1 ≤ ((l.length : Nat) : Int) := hcap
        rw [h0] at h3
        exact absurd (Int.le_trans hc h3) (by decide)
      · exact h0
    have HL2 := Lib.hid (show cacheE x d now = dropAt l (leastTo l l.length) ++ [(d, now)] from by rw [HCE.out]; unfold roomFor; rw [if_pos hcap])
    clear hcap
    obtain ⟨wo, hwo⟩ : ∃ wo, wo = wr := ⟨_, rfl⟩
    subst hwo
    go_wp2
    clear q2 kB zB kD zD kD1 kD2 kD3 kD4 kO fO zO
    go_loopw [9, 10] (fun old i wr => ∃ k : Nat, 1 ≤ k ∧ k ≤ l.length ∧ old = .int .i64 ((leastTo l k : Nat) : Int) ∧ i = .int .i64 k ∧ Below wo.heap.size wo wr) (fun _ i _ => l.length - (intOf i).toNat)
    case atStart => exact ⟨1, by omega, by omega, by rw [leastTo_one]; rfl, rfl, Below.refl _ _⟩
    case round =>
      obtain ⟨k, hk1, hk, rfl, rfl, hb⟩ := hrel
      have hOr := hO.below hb hO.lt
      have kO1 : wr.cell? ⟨w1.heap.size, 1, none⟩ = some (.slice Av (List.length l) cv) := hOr.cell 1
      have fO1 : wr.frozen? ⟨w1.heap.size, 1, none⟩ = false := hOr.frozen 1
      have zO1 : w1.heap.size < wr.heap.size := hOr.lt
      obtain ⟨m, hm⟩ : ∃ m, m = leastTo l k := ⟨_, rfl⟩
      have hml : m < l.length := by rw [hm]; exact leastTo_lt hpos hk
      rw [← hm]
      have HM := Lib.hid hm
      clear hm
      have i2_ : (0 : Int) ≤ (m : Int) := by omega
      have i3 : (m : Int) < (l.length : Int) := by omega
      by_cases hlt : k < l.length
      · have HST := Lib.hid (show leastTo l (k + 1) = if usedAt l k < usedAt l m then k else m from by rw [HM.out]; rfl)
        rw [usedAt_at hlt, usedAt_at hml] at HST
        have i0 : (0 : Int) ≤ (k : Int) := by omega
        have i1 : (k : Int) < (l.length : Int) := by omega
        obtain ⟨b, o, dse, rfl, hle, hcelle, hrde⟩ := Ty.rd_at (Ty.rd_below hb HRD.out) hlt
        have hrde' := hrde
        obtain ⟨Ae00, ce00, Ae01, ce01, Ae02, ce02, rfl, eg0, eg1⟩ := rd_CacheEntry hrde
        have e0 : wr.cell? ⟨b, o + k * 6, none⟩ = some (.slice Ae00 (List.length (l)[k].1.1) ce00) := by simpa [Ty.sz] using hcelle 0 (by decide)
        have e1 : wr.cell? ⟨b, o + k * 6 + 1, none⟩ = some (.slice Ae01 (List.length (l)[k].1.2.1) ce01) := by simpa [Ty.sz] using hcelle 1 (by decide)
        have e2 : wr.cell? ⟨b, o + k * 6 + 2, none⟩ = some (.slice Ae02 (List.length (l)[k].1.2.2.1) ce02) := by simpa [Ty.sz] using hcelle 2 (by decide)
        have e3 : wr.cell? ⟨b, o + k * 6 + 3, none⟩ = some (.int .i64 (l)[k].1.2.2.2.1) := by simpa [Ty.sz] using hcelle 3 (by decide)
        have e4 : wr.cell? ⟨b, o + k * 6 + 4, none⟩ = some (.int .i64 (l)[k].1.2.2.2.2) := by simpa [Ty.sz] using hcelle 4 (by decide)
        have e5 : wr.cell? ⟨b, o + k * 6 + 5, none⟩ = some (.int .i64 (l)[k].2) := by simpa [Ty.sz] using hcelle 5 (by decide)
        clear hcelle hle
        obtain ⟨b', o', ds', hA', hl', hcell', hrd'⟩ := Ty.rd_at (Ty.rd_below hb HRD.out) hml
        injection hA' with hA'
        injection hA' with hA1 hA2
        subst hA1; subst hA2
        obtain ⟨Am00, cm00, Am01, cm01, Am02, cm02, rfl, mg0, mg1⟩ := rd_CacheEntry hrd'
        have g5 : wr.cell? ⟨b, o + m * 6 + 5, none⟩ = some (.int .i64 (l)[m].2) := by simpa [Ty.sz] using hcell' 5 (by decide)
        clear hcell' hl' e0 e1 e2 e3 e4
        cases q3 : decide ((l)[k].2 < (l)[m].2)
        · have HN := Lib.hid (show leastTo l (k + 1) = m from by rw [HST.out, if_neg (by simpa using q3)])
          go_wp2_with fail
          go_quiet (fail)
          go_wp2
          go_roundw
          case rel => exact ⟨k + 1, by omega, by omega, by rw [HN.out], by go_num, bel_drewN hb _⟩
          case measure => simp [intOf]; omega
        · have HN := Lib.hid (show leastTo l (k + 1) = k from by rw [HST.out, if_pos (by simpa using q3)])
          go_wp2_with fail
          go_quiet (fail)
          go_wp2
          go_roundw
          case rel => exact ⟨k + 1, by omega, by omega, by rw [HN.out], by go_num, bel_drewN hb _⟩
          case measure => simp [intOf]; omega
      · have HL3 := Lib.hid (show cacheE x d now = dropAt l m ++ [(d, now)] from by rw [HL2.out, HM.out, show k = l.length from by omega])
        clear HL2
        go_wp2_with fail
        refine (C_spec_l12Without _ _ l m WX.heap.size fpx (HR.out.below hb) hml (by omega) (by omega)).mono ?_
        rintro e w4 ⟨v4, fp4, rfl, hr4, hsub4, hown4, hb4⟩
        obtain ⟨n4, A4, c4, hv4⟩ : ∃ n A c, v4 = .slice A n c := by obtain ⟨A, c, h⟩ := hr4.form; exact ⟨_, A, c, h⟩
        subst hv4
        have hno4 : ∀ g, (Value.slice A4 n4 c4).ownBlock = some g → g ≠ w1.heap.size := fun g hg => by have := hown4 g hg; omega
        have hfp4 := frI_sub hfpx hsub4
        have hbb : Below wo.heap.size wo w4 := bel_trans hb hb4
        have hO4 := hO.below hbb hO.lt
        have hD4 := hD.below hbb hD.lt
        have hR4 := hR.below hbb hR.lt
        have hw4 : Below w.heap.size w w4 := bel_trans hw hbb
        have HR4 := Lib.hid (hr4.far (p := ⟨w1.heap.size, 1, none⟩) (by dsimp only; intro hm; have := (hfp4.2 _ hm).2; omega) (fun g hg => hno4 g hg) (.slice A4 n4 c4))
        have hll4 := dropAt_len hml
        obtain ⟨wr, hwr⟩ : ∃ wr, wr = (w4.setCell ⟨w1.heap.size, 1, none⟩ (.slice A4 n4 c4)) := ⟨_, rfl⟩
        have hO5 := hO4.set_ 1 (.slice A4 n4 c4)
        have hD5 := hD4.far (p := ⟨w1.heap.size, 1, none⟩) (by dsimp only; omega) (.slice A4 n4 c4)
        have hR5 := hR4.far (p := ⟨w1.heap.size, 1, none⟩) (by dsimp only; omega) (.slice A4 n4 c4)
        have hw5 : Below w.heap.size w (w4.setCell ⟨w1.heap.size, 1, none⟩ (.slice A4 n4 c4)) := bel_set hw4 (by dsimp only; omega) _
        have kO4 : w4.cell? ⟨w1.heap.size, 1, none⟩ = some (.slice Av (List.length l) cv) := hO4.cell 1
        have fO4 : w4.frozen? ⟨w1.heap.size, 1, none⟩ = false := hO4.frozen 1
        have zO4 : w1.heap.size < w4.heap.size := hO4.lt
        have kD4_0 : w4.cell? ⟨w.heap.size + 1, 0, none⟩ = some (.slice Ad0 (List.length d.1) cd0) := hD4.cell 0
        have kD4_1 : w4.cell? ⟨w.heap.size + 1, 1, none⟩ = some (.slice Ad1 (List.length d.2.1) cd1) := hD4.cell 1
        have kD4_2 : w4.cell? ⟨w.heap.size + 1, 2, none⟩ = some (.slice Ad2 (List.length d.2.2.1) cd2) := hD4.cell 2
        have kD4_3 : w4.cell? ⟨w.heap.size + 1, 3, none⟩ = some (.int .i64 d.2.2.2.1) := hD4.cell 3
        have kD4_4 : w4.cell? ⟨w.heap.size + 1, 4, none⟩ = some (.int .i64 d.2.2.2.2) := hD4.cell 4
        have zD4 : w.heap.size + 1 < w4.heap.size := hD4.lt
        have hn5 : w1.heap.size ≠ w.heap.size + 1 := by omega
        have hn6 : w.heap.size + 1 ≠ w1.heap.size := by omega
        have kD : True := trivial
        have zD : True := trivial
        have hO_ : Blk wr w1.heap.size 24 #[.int .i64 x.1, .slice A4 n4 c4] := by rw [hwr]; exact hO5
        have hDq : Blk wr (w.heap.size + 1) 50 #[.slice Ad0 (List.length d.1) cd0, .slice Ad1 (List.length d.2.1) cd1, .slice Ad2 (List.length d.2.2.1) cd2, .int .i64 d.2.2.2.1, .int .i64 d.2.2.2.2] := by rw [hwr]; exact hD5
        have hRq : Blk wr (w.heap.size + 1 + 1) 24 #[.int .i64 0, .slice none 0 0] := by rw [hwr]; exact hR5
        have hwq : Below w.heap.size w wr := by rw [hwr]; exact hw5
        obtain ⟨l2, hl2⟩ : ∃ l2, l2 = dropAt l m := ⟨_, rfl⟩
        have HRq : Hid (DRowF tCacheEntry wr WX.heap.size 91 (.slice A4 n4 c4) l2 fp4) := by rw [hwr, hl2]; exact HR4.out
        have HLq : Hid (cacheE x d now = l2 ++ [(d, now)]) := by rw [hl2]; exact HL3.out
        have hll2 : l2.length ≤ 1048576 := by rw [hl2]; omega
        have hnoq := hno4
        clear hr4 hsub4 hown4 kO1 fO1 zO1 HR4 hl2 HL3 HCE hO5 hD5 hR5 hw5
        have hwr' := Lib.hid hwr
        clear hwr
        go_wp2_with fail
        rw [← hwr'.out]
        refine (C_spec_l8Copy _ _ d (Ty.rd_below hwq h2') hbk).mono ?_
        rintro e w6 ⟨cs6, fp6, rfl, how6, hfr6, hb6⟩
        obtain ⟨Aq0, cq0, Aq1, cq1, Aq2, cq2, rfl⟩ := ow_Data how6
        have hz6 := hb6.size
        have kO6 : w6.cell? ⟨w1.heap.size, 1, none⟩ = some (.slice A4 n4 c4) := (hb6.cell (p := ⟨w1.heap.size, 1, none⟩) hO_.lt).trans (hO_.cell 1)
        have zO6 : w1.heap.size < w6.heap.size := Nat.lt_of_lt_of_le hO_.lt hz6
        have zWr : w1.heap.size < wr.heap.size := hO_.lt
        clear kD zD kO4 fO4 zO4 zD4 kD4_0 kD4_1 kD4_2 kD4_3 kD4_4 hn5 hn6
        go_wp2_with (at_builtin; go_loud (refine wpList_append_drowF (e := tCacheEntry) rfl _ _ 22 rfl WX.heap.size 91 info_CacheEntry rfl Try.underlying22 _ _ l2 [(d, now)] fp4 fp6 (by rfl) (by rfl) (HRq.out.below (by (repeat' (first | (with_reducible exact Below.refl _ _) | (with_reducible assumption) | (with_reducible refine bel_set ?_ (by (try dsimp only); omega) _) | (with_reducible refine bel_alloc ?_ _) | (with_reducible refine bel_drewN ?_ _) | (with_reducible refine bel_drew ?_) | (with_reducible refine bel_trans ?_ (by assumption)))); done)) (SrcF.lit 91 (ow_CacheEntry_mk (d := (d, now)) (Ty.ow_bel (by (repeat' (first | (with_reducible exact Below.refl _ _) | (with_reducible assumption) | (with_reducible refine bel_set ?_ (by (try dsimp only); omega) _) | (with_reducible refine bel_alloc ?_ _) | (with_reducible refine bel_drewN ?_ _) | (with_reducible refine bel_drew ?_) | (with_reducible refine bel_trans ?_ (by assumption)))); done) how6) i2) (by first | rfl | simp only [World.size_alloc])) (fun g hg hm => by have := (HRq.out.block g hg).2; have := (hfr6.2 g hm).1; omega) (by rw [List.length_singleton]; omega) (by rw [List.length_singleton]; unfold maxLen; omega) (by (try simp only [World.size_alloc]); omega) ?_))
        intro v' w' hr' hg' ho'
        obtain ⟨nn, An, cn, hvn⟩ : ∃ n A c, v' = .slice A n c := by obtain ⟨A, c, h⟩ := hr'.form; exact ⟨_, A, c, h⟩
        subst hvn
        have hRn := grow_blk (w0 := wr) (by (repeat' (first | (with_reducible exact Below.refl _ _) | (with_reducible assumption) | (with_reducible refine bel_set ?_ (by (try dsimp only); omega) _) | (with_reducible refine bel_alloc ?_ _) | (with_reducible refine bel_drewN ?_ _) | (with_reducible refine bel_drew ?_) | (with_reducible refine bel_trans ?_ (by assumption)))); done) hg' hRq (fun e => by have := (HRq.out.block _ e.symm).1; omega)
        have hOn := grow_blk (w0 := wr) (by (repeat' (first | (with_reducible exact Below.refl _ _) | (with_reducible assumption) | (with_reducible refine bel_set ?_ (by (try dsimp only); omega) _) | (with_reducible refine bel_alloc ?_ _) | (with_reducible refine bel_drewN ?_ _) | (with_reducible refine bel_drew ?_) | (with_reducible refine bel_trans ?_ (by assumption)))); done) hg' hO_ (fun e => hnoq _ e.symm rfl)
        have hbn : Below w.heap.size w w' := grow_bel (bel_trans hwq (by (repeat' (first | (with_reducible exact Below.refl _ _) | (with_reducible assumption) | (with_reducible refine bel_set ?_ (by (try dsimp only); omega) _) | (with_reducible refine bel_alloc ?_ _) | (with_reducible refine bel_drewN ?_ _) | (with_reducible refine bel_drew ?_) | (with_reducible refine bel_trans ?_ (by assumption)))); done)) hg' (fun g hg => by have := (HRq.out.block g hg).1; omega)
        have hszn : w6.heap.size ≤ w'.heap.size := by have := hg'.size; (try simp only [World.size_alloc] at this); omega
        have hnon : ∀ g, (Value.slice An nn cn).ownBlock = some g → g ≠ w1.heap.size := fun g hg => by
          rcases ho' with ho' | ho'
          · rw [ho'] at hg; exact hnoq g hg
          · rw [ho'] at hg
            simp only [Option.some.injEq] at hg
            (try simp only [World.size_alloc] at hg)
            omega
        have hR8 := hRn
        have hO8 := hOn
        have kR_8_0 : w'.cell? ⟨w.heap.size + 1 + 1, 0, none⟩ = some (.int .i64 0) := hR8.cell 0
        have fR_8_0 : w'.frozen? ⟨w.heap.size + 1 + 1, 0, none⟩ = false := hR8.frozen 0
        have kR_8_1 : w'.cell? ⟨w.heap.size + 1 + 1, 1, none⟩ = some (.slice none 0 0) := hR8.cell 1
        have fR_8_1 : w'.frozen? ⟨w.heap.size + 1 + 1, 1, none⟩ = false := hR8.frozen 1
        have zR_8 : w.heap.size + 1 + 1 < w'.heap.size := hR8.lt
        have kO_8_0 : w'.cell? ⟨w1.heap.size, 0, none⟩ = some (.int .i64 x.1) := hO8.cell 0
        have fO_8_0 : w'.frozen? ⟨w1.heap.size, 0, none⟩ = false := hO8.frozen 0
        have kO_8_1 : w'.cell? ⟨w1.heap.size, 1, none⟩ = some (.slice A4 n4 c4) := hO8.cell 1
        have fO_8_1 : w'.frozen? ⟨w1.heap.size, 1, none⟩ = false := hO8.frozen 1
        have zO_8 : w1.heap.size < w'.heap.size := hO8.lt
        have hn5 : w1.heap.size ≠ w.heap.size + 1 + 1 := by omega
        have hn6 : w.heap.size + 1 + 1 ≠ w1.heap.size := by omega
        have hr9 := hr'.far (p := ⟨w1.heap.size, 1, none⟩) (by dsimp only; intro hm; rcases List.mem_append.1 hm with hm | hm; (have := hfp4.2 _ hm; omega); (have := (hfr6.2 _ hm).1; omega)) (fun g hg => hnon g hg) (.slice An nn cn)
        have hr10 := hr9.drow (FrI.app hfp4 (hfr6.mono (show w1.heap.size ≤ _ by omega) (show _ ≤ (w'.setCell ⟨w1.heap.size, 1, none⟩ (.slice An nn cn)).heap.size by rw [World.size_setCell]; exact hszn)) (Nat.le_refl _) (by omega) (by rw [World.size_setCell]; omega))
        have HR10 := Lib.hid hr10
        clear hr' hr9 hr10 hg' ho' hRn hOn kO6 zO6
        go_wp2
        refine bodyPost_ret (v := .agg #[.int .i64 x.1, .slice An nn cn]) (by simp [results, Try.results44, go_sem, kR_8_0, fR_8_0, kR_8_1, fR_8_1, kO_8_0, fO_8_0, kO_8_1, fO_8_1, zR_8, zO_8, hn5, hn6]) rfl ?_
        rw [HZ.out, HLq.out]
        exact RetStore.agg (x := (x.1, l2 ++ [(d, now)])) xg0 ⟨_, rfl, ((HR10.out.far (p := ⟨w.heap.size + 1 + 1, 0, none⟩) (by dsimp only; omega) (.int .i64 x.1)).far (p := ⟨w.heap.size + 1 + 1, 1, none⟩) (by dsimp only; omega) (.slice An nn cn)).mono (by omega), (by repeat' (first | (with_reducible exact Below.refl _ _) | (with_reducible assumption) | (with_reducible refine bel_set ?_ (by (try dsimp only); omega) _) | (with_reducible refine bel_alloc ?_ _) | (with_reducible refine bel_drewN ?_ _) | (with_reducible refine bel_drew ?_)))⟩
end Go.Proofs.Ytemicfeiejfdkaa
