/- Interests as text. Printed by gen45.py. -/
import Derived.Test.YtpjnidfdkggpfaaDoorFin
import Derived.Test.YtpjnidfdkggpfaaDoorMkb
import Derived.Test.YtpjnidfdkggpfaaDoorMkl
namespace Go.Proofs.YtpjnidfdkggpfaaDoor
open Go.RowKit
set_option linter.unusedVariables false
set_option linter.unusedSimpArgs false

theorem tabIs_bel {P : Program} {w w' : World} {name : String} {k : IntKind} {zs : List Int} (h : Lib.TabIs P w name k zs) (hb : Below w.heap.size w w') : Lib.TabIs P w' name k zs := by
  unfold Lib.TabIs World.var? at *
  cases hg : P.globalNamed name with
  | none => simp [hg] at h
  | some g =>
    simp only [hg, Option.bind_some] at h ⊢
    have hlt : g < w.heap.size := by
      rcases Nat.lt_or_ge g w.heap.size with h' | h'
      · exact h'
      · rw [Array.getElem?_eq_none h'] at h; simp at h
    rw [hb.block g hlt]
    exact h
theorem bel_growN (w : World) (k : Nat) (os : Array Obj) : Below w.heap.size w (Sort.grow (w.drewN k) os) := by
  have h1 : Below w.heap.size w (w.drewN k) := bel_drewN (Below.refl _ _) k
  refine ⟨h1.os, h1.tape, h1.output, ?_, fun g hg => ?_⟩
  · rw [Sort.size_grow]; have := h1.size; omega
  · rw [Sort.heap_grow_old _ _ (by have := h1.size; omega)]; exact h1.block g hg
abbrev TabI (w : World) : Prop := Lib.TabIs Tryd.prog w "internal/strconv.uint64pow10" .u64 Lib.pow10Tab
def fmtQ (x : Ty.D tInterest) : List UInt8 := fmtP x.1 ++ [63]
def f_FormatInterest (x : Ty.D tInterest) : List UInt8 := fmtQ x ++ Lib.itoa x.2.1
theorem int_parts {x : Ty.D tInterest} {n : Nat} (s : Ty.bulk tInterest x ≤ n) : Ty.bulk (.sl .str) x.1 ≤ n := by
  have h1 : Ty.bulk tInterest x = Ty.bulk (.sl .str) x.1 + 0 := rfl
  omega
theorem fmtQ_len {x : Ty.D tInterest} (s : Ty.bulk tInterest x ≤ 1048576) : (fmtQ x).length ≤ 2000000 := by
  have := fmtP_len x.1
  have := int_parts s
  unfold fmtQ
  rw [List.length_append, List.length_singleton]; omega
theorem formatInterest_len {x : Ty.D tInterest} (s : Ty.bulk tInterest x ≤ 1048576) (hn : -9223372036854775808 ≤ x.2.1 ∧ x.2.1 ≤ 9223372036854775807) : (f_FormatInterest x).length ≤ 3000000 := by
  have := fmtQ_len s
  have := Lib.itoa_length_le x.2.1 hn.1 hn.2
  unfold f_FormatInterest
  rw [List.length_append]; omega
theorem C_impl_FormatInt (w : World) (n : Int) (hn : -9223372036854775808 ≤ n ∧ n ≤ 9223372036854775807) (ht : TabI w) :
    Calls Tryd.prog 20 #[.int .i64 n] w (RetStr w (Lib.itoa n)) := by
  go_enter Tryd.func20, Tryd.ntmps20
  go_wp2_with fail
  refine (strconv_Itoa n hn.1 hn.2 _ ht).mono ?_
  rintro e w1 ⟨rfl, k, os, hw1⟩
  have hb1 : Below w.heap.size w w1 := by rw [hw1]; exact bel_growN w k os
  clear hw1
  go_wp2
  go_ret
  exact ⟨rfl, hb1⟩
set_option maxHeartbeats 4000000 in
theorem C_spec_FormatInterest (w : World) (cs : List Value) (x : Ty.D tInterest) (h : Ty.rd w tInterest cs x) (s0 : Ty.bulk tInterest x ≤ 1048576) :
    Calls Tryd.prog 6 #[.agg cs.toArray] w (RetStr w (f_FormatInterest x)) := by
  obtain ⟨Ax0, cx0, rfl, xg0, xg1, xg2, xg3⟩ := rd_Interest h
  have b1 := int_parts s0
  have hc1 := cat_eq (P := Tryd.prog) (fmtP x.1) [63] (fmtQ x) rfl (Nat.le_trans (fmtQ_len s0) (by decide))
  have hc2 := cat_eq (P := Tryd.prog) (fmtQ x) (Lib.itoa x.2.1) (f_FormatInterest x) rfl (Nat.le_trans (formatInterest_len s0 xg1) (by decide))
  have kb0_0 : (w.alloc (.cells #[.slice Ax0 (List.length x.1) cx0, .int .i64 x.2.1, .int .i64 x.2.2.1, .int .i64 x.2.2.2] 31)).cell? ⟨w.heap.size, 0, none⟩ = some (.slice Ax0 (List.length x.1) cx0) := (cell_new w _ _ 0 (by first | rfl | simp only [World.size_alloc]))
  have kb0_1 : (w.alloc (.cells #[.slice Ax0 (List.length x.1) cx0, .int .i64 x.2.1, .int .i64 x.2.2.1, .int .i64 x.2.2.2] 31)).cell? ⟨w.heap.size, 1, none⟩ = some (.int .i64 x.2.1) := (cell_new w _ _ 1 (by first | rfl | simp only [World.size_alloc]))
  have kb0_2 : (w.alloc (.cells #[.slice Ax0 (List.length x.1) cx0, .int .i64 x.2.1, .int .i64 x.2.2.1, .int .i64 x.2.2.2] 31)).cell? ⟨w.heap.size, 2, none⟩ = some (.int .i64 x.2.2.1) := (cell_new w _ _ 2 (by first | rfl | simp only [World.size_alloc]))
  have kb0_3 : (w.alloc (.cells #[.slice Ax0 (List.length x.1) cx0, .int .i64 x.2.1, .int .i64 x.2.2.1, .int .i64 x.2.2.2] 31)).cell? ⟨w.heap.size, 3, none⟩ = some (.int .i64 x.2.2.2) := (cell_new w _ _ 3 (by first | rfl | simp only [World.size_alloc]))
  have hvb : Below w.heap.size w (w.alloc (.cells #[.slice Ax0 (List.length x.1) cx0, .int .i64 x.2.1, .int .i64 x.2.2.1, .int .i64 x.2.2.2] 31)) := (by repeat' (first | (with_reducible exact Below.refl _ _) | (with_reducible assumption) | (with_reducible refine bel_set ?_ (by (try dsimp only); omega) _) | (with_reducible refine bel_alloc ?_ _) | (with_reducible refine bel_drewN ?_ _) | (with_reducible refine bel_drew ?_)))
  have zb0 := Lib.hid (show (w.alloc (.cells #[.slice Ax0 (List.length x.1) cx0, .int .i64 x.2.1, .int .i64 x.2.2.1, .int .i64 x.2.2.2] 31)).heap.size = w.heap.size + 1 from by simp only [World.size_alloc])
  have zb : w.heap.size < (w.alloc (.cells #[.slice Ax0 (List.length x.1) cx0, .int .i64 x.2.1, .int .i64 x.2.2.1, .int .i64 x.2.2.2] 31)).heap.size := by simp only [World.size_alloc]; omega
  go_enter Tryd.func6, Tryd.ntmps6
  go_wp2_with fail
  generalize (w.alloc (.cells #[.slice Ax0 (List.length x.1) cx0, .int .i64 x.2.1, .int .i64 x.2.2.1, .int .i64 x.2.2.2] 31)) = WX at kb0_0 kb0_1 kb0_2 kb0_3 hvb zb zb0 ⊢
  have HC : Hid (∀ V, Below WX.heap.size WX V → V.cell? ⟨w.heap.size, 0, none⟩ = some (.slice Ax0 (List.length x.1) cx0) ∧ V.cell? ⟨w.heap.size, 1, none⟩ = some (.int .i64 x.2.1) ∧ V.cell? ⟨w.heap.size, 2, none⟩ = some (.int .i64 x.2.2.1) ∧ V.cell? ⟨w.heap.size, 3, none⟩ = some (.int .i64 x.2.2.2)) := fun V hW => ⟨(hW.cell (p := ⟨w.heap.size, 0, none⟩) (by dsimp only; omega)).trans kb0_0, (hW.cell (p := ⟨w.heap.size, 1, none⟩) (by dsimp only; omega)).trans kb0_1, (hW.cell (p := ⟨w.heap.size, 2, none⟩) (by dsimp only; omega)).trans kb0_2, (hW.cell (p := ⟨w.heap.size, 3, none⟩) (by dsimp only; omega)).trans kb0_3⟩
  clear kb0_0 kb0_1 kb0_2 kb0_3
  have HS : Hid (∀ W, Below WX.heap.size WX W → Below w.heap.size w W ∧ W.cell? ⟨w.heap.size, 0, none⟩ = some (.slice Ax0 (List.length x.1) cx0) ∧ W.cell? ⟨w.heap.size, 1, none⟩ = some (.int .i64 x.2.1) ∧ W.cell? ⟨w.heap.size, 2, none⟩ = some (.int .i64 x.2.2.1) ∧ W.cell? ⟨w.heap.size, 3, none⟩ = some (.int .i64 x.2.2.2)) := fun W hW => ⟨bel_trans hvb hW, HC.out W hW⟩
  have hv0 : Below WX.heap.size WX WX := Below.refl _ _
  set_option maxRecDepth 100000 in go_region_held3 (fun W => Below w.heap.size w W ∧ W.cell? ⟨w.heap.size, 0, none⟩ = some (.slice Ax0 (List.length x.1) cx0) ∧ W.cell? ⟨w.heap.size, 1, none⟩ = some (.int .i64 x.2.1) ∧ W.cell? ⟨w.heap.size, 2, none⟩ = some (.int .i64 x.2.2.1) ∧ W.cell? ⟨w.heap.size, 3, none⟩ = some (.int .i64 x.2.2.2)) (exact HS.out _ (by (repeat' (first | (with_reducible exact Below.refl _ _) | (with_reducible assumption) | (with_reducible refine bel_set ?_ (by (try dsimp only); omega) _) | (with_reducible refine bel_alloc ?_ _) | (with_reducible refine bel_drewN ?_ _) | (with_reducible refine bel_drew ?_) | (with_reducible refine bel_trans ?_ (by assumption)))); done))
    (first
      | (go_at_call 16; (with_reducible refine (C_spec_FormatName _ _ x.1 (Ty.rd_below (by (repeat' (first | (with_reducible exact Below.refl _ _) | (with_reducible assumption) | (with_reducible refine bel_set ?_ (by (try dsimp only); omega) _) | (with_reducible refine bel_alloc ?_ _) | (with_reducible refine bel_drewN ?_ _) | (with_reducible refine bel_drew ?_) | (with_reducible refine bel_trans ?_ (by assumption)))); done) (Ty.rd_below hvb xg0)) (Nat.le_trans b1 (by decide))).mono ?_); rintro e w1 ⟨rfl, hb1⟩)
      | (go_at_call 17; (with_reducible refine (C_spec_FormatInt _ x.2.1 xg1).mono ?_); rintro e w2 ⟨rfl, hb2⟩)
      | fail)
  all_goals
    go_wp2
    go_ret
    exact ⟨rfl, (by (repeat' (first | (with_reducible exact Below.refl _ _) | (with_reducible assumption) | (with_reducible refine bel_set ?_ (by (try dsimp only); omega) _) | (with_reducible refine bel_alloc ?_ _) | (with_reducible refine bel_drewN ?_ _) | (with_reducible refine bel_drew ?_) | (with_reducible refine bel_trans ?_ (by assumption)))); done)⟩
set_option maxHeartbeats 4000000 in
theorem C_impl_FormatInterest (w : World) (cs : List Value) (x : Ty.D tInterest) (h : Ty.rd w tInterest cs x) (s0 : Ty.bulk tInterest x ≤ 1048576) (ht : TabI w) :
    Calls Tryd.prog 8 #[.agg cs.toArray] w (RetStr w (f_FormatInterest x)) := by
  obtain ⟨Ax0, cx0, rfl, xg0, xg1, xg2, xg3⟩ := rd_Interest h
  have b1 := int_parts s0
  have hc1 := cat_eq (P := Tryd.prog) (fmtP x.1) [63] (fmtQ x) rfl (Nat.le_trans (fmtQ_len s0) (by decide))
  have hc2 := cat_eq (P := Tryd.prog) (fmtQ x) (Lib.itoa x.2.1) (f_FormatInterest x) rfl (Nat.le_trans (formatInterest_len s0 xg1) (by decide))
  have kb0_0 : (w.alloc (.cells #[.slice Ax0 (List.length x.1) cx0, .int .i64 x.2.1, .int .i64 x.2.2.1, .int .i64 x.2.2.2] 31)).cell? ⟨w.heap.size, 0, none⟩ = some (.slice Ax0 (List.length x.1) cx0) := (cell_new w _ _ 0 (by first | rfl | simp only [World.size_alloc]))
  have kb0_1 : (w.alloc (.cells #[.slice Ax0 (List.length x.1) cx0, .int .i64 x.2.1, .int .i64 x.2.2.1, .int .i64 x.2.2.2] 31)).cell? ⟨w.heap.size, 1, none⟩ = some (.int .i64 x.2.1) := (cell_new w _ _ 1 (by first | rfl | simp only [World.size_alloc]))
  have kb0_2 : (w.alloc (.cells #[.slice Ax0 (List.length x.1) cx0, .int .i64 x.2.1, .int .i64 x.2.2.1, .int .i64 x.2.2.2] 31)).cell? ⟨w.heap.size, 2, none⟩ = some (.int .i64 x.2.2.1) := (cell_new w _ _ 2 (by first | rfl | simp only [World.size_alloc]))
  have kb0_3 : (w.alloc (.cells #[.slice Ax0 (List.length x.1) cx0, .int .i64 x.2.1, .int .i64 x.2.2.1, .int .i64 x.2.2.2] 31)).cell? ⟨w.heap.size, 3, none⟩ = some (.int .i64 x.2.2.2) := (cell_new w _ _ 3 (by first | rfl | simp only [World.size_alloc]))
  have hvb : Below w.heap.size w (w.alloc (.cells #[.slice Ax0 (List.length x.1) cx0, .int .i64 x.2.1, .int .i64 x.2.2.1, .int .i64 x.2.2.2] 31)) := (by repeat' (first | (with_reducible exact Below.refl _ _) | (with_reducible assumption) | (with_reducible refine bel_set ?_ (by (try dsimp only); omega) _) | (with_reducible refine bel_alloc ?_ _) | (with_reducible refine bel_drewN ?_ _) | (with_reducible refine bel_drew ?_)))
  have zb0 := Lib.hid (show (w.alloc (.cells #[.slice Ax0 (List.length x.1) cx0, .int .i64 x.2.1, .int .i64 x.2.2.1, .int .i64 x.2.2.2] 31)).heap.size = w.heap.size + 1 from by simp only [World.size_alloc])
  have zb : w.heap.size < (w.alloc (.cells #[.slice Ax0 (List.length x.1) cx0, .int .i64 x.2.1, .int .i64 x.2.2.1, .int .i64 x.2.2.2] 31)).heap.size := by simp only [World.size_alloc]; omega
  go_enter Tryd.func8, Tryd.ntmps8
  go_wp2_with fail
  generalize (w.alloc (.cells #[.slice Ax0 (List.length x.1) cx0, .int .i64 x.2.1, .int .i64 x.2.2.1, .int .i64 x.2.2.2] 31)) = WX at kb0_0 kb0_1 kb0_2 kb0_3 hvb zb zb0 ⊢
  have HC : Hid (∀ V, Below WX.heap.size WX V → V.cell? ⟨w.heap.size, 0, none⟩ = some (.slice Ax0 (List.length x.1) cx0) ∧ V.cell? ⟨w.heap.size, 1, none⟩ = some (.int .i64 x.2.1) ∧ V.cell? ⟨w.heap.size, 2, none⟩ = some (.int .i64 x.2.2.1) ∧ V.cell? ⟨w.heap.size, 3, none⟩ = some (.int .i64 x.2.2.2)) := fun V hW => ⟨(hW.cell (p := ⟨w.heap.size, 0, none⟩) (by dsimp only; omega)).trans kb0_0, (hW.cell (p := ⟨w.heap.size, 1, none⟩) (by dsimp only; omega)).trans kb0_1, (hW.cell (p := ⟨w.heap.size, 2, none⟩) (by dsimp only; omega)).trans kb0_2, (hW.cell (p := ⟨w.heap.size, 3, none⟩) (by dsimp only; omega)).trans kb0_3⟩
  clear kb0_0 kb0_1 kb0_2 kb0_3
  have HS : Hid (∀ W, Below WX.heap.size WX W → Below w.heap.size w W ∧ W.cell? ⟨w.heap.size, 0, none⟩ = some (.slice Ax0 (List.length x.1) cx0) ∧ W.cell? ⟨w.heap.size, 1, none⟩ = some (.int .i64 x.2.1) ∧ W.cell? ⟨w.heap.size, 2, none⟩ = some (.int .i64 x.2.2.1) ∧ W.cell? ⟨w.heap.size, 3, none⟩ = some (.int .i64 x.2.2.2)) := fun W hW => ⟨bel_trans hvb hW, HC.out W hW⟩
  have hv0 : Below WX.heap.size WX WX := Below.refl _ _
  have HT := Lib.hid (tabIs_bel ht hvb)
  set_option maxRecDepth 100000 in go_region_held3 (fun W => Below w.heap.size w W ∧ W.cell? ⟨w.heap.size, 0, none⟩ = some (.slice Ax0 (List.length x.1) cx0) ∧ W.cell? ⟨w.heap.size, 1, none⟩ = some (.int .i64 x.2.1) ∧ W.cell? ⟨w.heap.size, 2, none⟩ = some (.int .i64 x.2.2.1) ∧ W.cell? ⟨w.heap.size, 3, none⟩ = some (.int .i64 x.2.2.2)) (exact HS.out _ (by (repeat' (first | (with_reducible exact Below.refl _ _) | (with_reducible assumption) | (with_reducible refine bel_set ?_ (by (try dsimp only); omega) _) | (with_reducible refine bel_alloc ?_ _) | (with_reducible refine bel_drewN ?_ _) | (with_reducible refine bel_drew ?_) | (with_reducible refine bel_trans ?_ (by assumption)))); done))
    (first
      | (go_at_call 19; (with_reducible refine (C_impl_FormatName _ _ x.1 (Ty.rd_below (by (repeat' (first | (with_reducible exact Below.refl _ _) | (with_reducible assumption) | (with_reducible refine bel_set ?_ (by (try dsimp only); omega) _) | (with_reducible refine bel_alloc ?_ _) | (with_reducible refine bel_drewN ?_ _) | (with_reducible refine bel_drew ?_) | (with_reducible refine bel_trans ?_ (by assumption)))); done) (Ty.rd_below hvb xg0)) (Nat.le_trans b1 (by decide))).mono ?_); rintro e w1 ⟨rfl, hb1⟩)
      | (go_at_call 20; (with_reducible refine (C_impl_FormatInt _ x.2.1 xg1 (tabIs_bel HT.out (by (repeat' (first | (with_reducible exact Below.refl _ _) | (with_reducible assumption) | (with_reducible refine bel_set ?_ (by (try dsimp only); omega) _) | (with_reducible refine bel_alloc ?_ _) | (with_reducible refine bel_drewN ?_ _) | (with_reducible refine bel_drew ?_) | (with_reducible refine bel_trans ?_ (by assumption)))); done))).mono ?_); rintro e w2 ⟨rfl, hb2⟩)
      | fail)
  all_goals
    go_wp2
    go_ret
    exact ⟨rfl, (by (repeat' (first | (with_reducible exact Below.refl _ _) | (with_reducible assumption) | (with_reducible refine bel_set ?_ (by (try dsimp only); omega) _) | (with_reducible refine bel_alloc ?_ _) | (with_reducible refine bel_drewN ?_ _) | (with_reducible refine bel_drew ?_) | (with_reducible refine bel_trans ?_ (by assumption)))); done)⟩
end Go.Proofs.YtpjnidfdkggpfaaDoor
