/- The law FnExactVerifyData, walked out of the contracts. Printed by a program. -/
import Derived.Test.YtbikangfobdjlaaVer
import Derived.Deep.RegionHeld3
namespace Go.Proofs.Ytbikangfobdjlaa
open Go.RowKit
set_option linter.unusedVariables false
set_option linter.unusedSimpArgs false

set_option maxRecDepth 100000 in
set_option maxHeartbeats 4000000 in
theorem L_VerifyData (w : World) (a0 : Int) (i0 : -9223372036854775808 ≤ a0 ∧ a0 ≤ 9223372036854775807) (cs1 : List Value) (x1 : Ty.D tData) (h1 : Ty.rd w tData cs1 x1) :
    Calls Try.prog 11 #[.int .i64 a0, .agg cs1.toArray] w (RetB w true) := by
  obtain ⟨A10, c10, A11, c11, A12, c12, rfl, _, _, _, _, _⟩ := rd_Data h1
  go_enter Try.func11, Try.ntmps11
  go_wp2_with fail
  refine (C_laws_szData _ _ x1 1048576 (Ty.rd_below (by repeat' (first | (with_reducible exact Below.refl _ _) | (with_reducible assumption) | (with_reducible refine bel_set ?_ (by (try dsimp only); omega) _) | (with_reducible refine bel_alloc ?_ _) | (with_reducible refine bel_drewN ?_ _) | (with_reducible refine bel_drew ?_))) h1) (by omega) (by omega)).mono ?_
  rintro e w1 ⟨r1, rfl, hr1, hb1⟩
  have st1 : Below w.heap.size w w1 := bel_trans (by repeat' (first | (with_reducible exact Below.refl _ _) | (with_reducible assumption) | (with_reducible refine bel_set ?_ (by (try dsimp only); omega) _) | (with_reducible refine bel_alloc ?_ _) | (with_reducible refine bel_drewN ?_ _) | (with_reducible refine bel_drew ?_))) hb1
  have zz1 : w.heap.size + 1 ≤ w1.heap.size := by have := hb1.size; (try simp only [World.size_alloc] at this); omega
  have vw_1 : Below w.heap.size w w1 := st1
  have za1_1 : w.heap.size < w1.heap.size := by omega
  have ea1_0_1 : w1.cell? ⟨w.heap.size, 0, none⟩ = some (.slice A10 (List.length x1.1) c10) := (hb1.cell (by (try simp only [World.size_alloc]); (try dsimp only); omega)).trans ((cell_new w 27 #[.slice A10 (List.length x1.1) c10, .slice A11 (List.length x1.2.1) c11, .slice A12 (List.length x1.2.2.1) c12, .int .i64 x1.2.2.2.1, .int .i64 x1.2.2.2.2] 0 (by first | rfl | (simp only [World.size_alloc]))) : _ = some (Value.slice A10 (List.length x1.1) c10))
  have ea1_1_1 : w1.cell? ⟨w.heap.size, 1, none⟩ = some (.slice A11 (List.length x1.2.1) c11) := (hb1.cell (by (try simp only [World.size_alloc]); (try dsimp only); omega)).trans ((cell_new w 27 #[.slice A10 (List.length x1.1) c10, .slice A11 (List.length x1.2.1) c11, .slice A12 (List.length x1.2.2.1) c12, .int .i64 x1.2.2.2.1, .int .i64 x1.2.2.2.2] 1 (by first | rfl | (simp only [World.size_alloc]))) : _ = some (Value.slice A11 (List.length x1.2.1) c11))
  have ea1_2_1 : w1.cell? ⟨w.heap.size, 2, none⟩ = some (.slice A12 (List.length x1.2.2.1) c12) := (hb1.cell (by (try simp only [World.size_alloc]); (try dsimp only); omega)).trans ((cell_new w 27 #[.slice A10 (List.length x1.1) c10, .slice A11 (List.length x1.2.1) c11, .slice A12 (List.length x1.2.2.1) c12, .int .i64 x1.2.2.2.1, .int .i64 x1.2.2.2.2] 2 (by first | rfl | (simp only [World.size_alloc]))) : _ = some (Value.slice A12 (List.length x1.2.2.1) c12))
  have ea1_3_1 : w1.cell? ⟨w.heap.size, 3, none⟩ = some (.int .i64 x1.2.2.2.1) := (hb1.cell (by (try simp only [World.size_alloc]); (try dsimp only); omega)).trans ((cell_new w 27 #[.slice A10 (List.length x1.1) c10, .slice A11 (List.length x1.2.1) c11, .slice A12 (List.length x1.2.2.1) c12, .int .i64 x1.2.2.2.1, .int .i64 x1.2.2.2.2] 3 (by first | rfl | (simp only [World.size_alloc]))) : _ = some (Value.int .i64 x1.2.2.2.1))
  have ea1_4_1 : w1.cell? ⟨w.heap.size, 4, none⟩ = some (.int .i64 x1.2.2.2.2) := (hb1.cell (by (try simp only [World.size_alloc]); (try dsimp only); omega)).trans ((cell_new w 27 #[.slice A10 (List.length x1.1) c10, .slice A11 (List.length x1.2.1) c11, .slice A12 (List.length x1.2.2.1) c12, .int .i64 x1.2.2.2.1, .int .i64 x1.2.2.2.2] 4 (by first | rfl | (simp only [World.size_alloc]))) : _ = some (Value.int .i64 x1.2.2.2.2))
  rcases hr1 with rfl | ⟨p1, q1⟩
  · go_wp2
    go_ret
    exact ⟨rfl, vw_1⟩
  have s1 : Ty.bulk tData x1 ≤ 1048576 := by omega
  go_wp2_with fail
  refine (C_laws_toData _ _ x1 (Ty.rd_below (by repeat' (first | (with_reducible exact Below.refl _ _) | (with_reducible assumption) | (with_reducible refine bel_set ?_ (by (try dsimp only); omega) _) | (with_reducible refine bel_alloc ?_ _) | (with_reducible refine bel_drewN ?_ _) | (with_reducible refine bel_drew ?_))) h1) s1).mono ?_
  rintro e w2 ⟨cs2_, fp2, rfl, how2, hfr2, hb2⟩
  obtain ⟨A2_0, c2_0, A2_1, c2_1, A2_2, c2_2, rfl⟩ := ow_Data how2
  have st2 : Below w1.heap.size w1 w2 := bel_trans (by repeat' (first | (with_reducible exact Below.refl _ _) | (with_reducible assumption) | (with_reducible refine bel_set ?_ (by (try dsimp only); omega) _) | (with_reducible refine bel_alloc ?_ _) | (with_reducible refine bel_drewN ?_ _) | (with_reducible refine bel_drew ?_))) hb2
  have zz2 : w1.heap.size + 0 ≤ w2.heap.size := by have := hb2.size; (try simp only [World.size_alloc] at this); omega
  have vw_2 : Below w.heap.size w w2 := bel_trans vw_1 st2
  have za1_2 : w.heap.size < w2.heap.size := by omega
  have ea1_0_2 : w2.cell? ⟨w.heap.size, 0, none⟩ = some (.slice A10 (List.length x1.1) c10) := (hb2.cell (by (try simp only [World.size_alloc]); (try dsimp only); omega)).trans ea1_0_1
  have ea1_1_2 : w2.cell? ⟨w.heap.size, 1, none⟩ = some (.slice A11 (List.length x1.2.1) c11) := (hb2.cell (by (try simp only [World.size_alloc]); (try dsimp only); omega)).trans ea1_1_1
  have ea1_2_2 : w2.cell? ⟨w.heap.size, 2, none⟩ = some (.slice A12 (List.length x1.2.2.1) c12) := (hb2.cell (by (try simp only [World.size_alloc]); (try dsimp only); omega)).trans ea1_2_1
  have ea1_3_2 : w2.cell? ⟨w.heap.size, 3, none⟩ = some (.int .i64 x1.2.2.2.1) := (hb2.cell (by (try simp only [World.size_alloc]); (try dsimp only); omega)).trans ea1_3_1
  have ea1_4_2 : w2.cell? ⟨w.heap.size, 4, none⟩ = some (.int .i64 x1.2.2.2.2) := (hb2.cell (by (try simp only [World.size_alloc]); (try dsimp only); omega)).trans ea1_4_1
  clear ea1_0_1 ea1_1_1 ea1_2_1 ea1_3_1 ea1_4_1
  have vtp1_2 : Below w2.heap.size w2 w2 := Below.refl _ _
  go_wp2_with fail
  refine (C_spec_VerifyData _ a0 _ x1 (Ty.ow_rd (Ty.ow_bel (by repeat' (first | (with_reducible exact Below.refl _ _) | (with_reducible assumption) | (with_reducible refine bel_set ?_ (by (try dsimp only); omega) _) | (with_reducible refine bel_alloc ?_ _) | (with_reducible refine bel_drewN ?_ _) | (with_reducible refine bel_drew ?_))) how2)) i0 s1).mono ?_
  rintro e w3 ⟨rfl, hb3⟩
  have st3 : Below w2.heap.size w2 w3 := bel_trans (by repeat' (first | (with_reducible exact Below.refl _ _) | (with_reducible assumption) | (with_reducible refine bel_set ?_ (by (try dsimp only); omega) _) | (with_reducible refine bel_alloc ?_ _) | (with_reducible refine bel_drewN ?_ _) | (with_reducible refine bel_drew ?_))) hb3
  have zz3 : w2.heap.size + 0 ≤ w3.heap.size := by have := hb3.size; (try simp only [World.size_alloc] at this); omega
  have vw_3 : Below w.heap.size w w3 := bel_trans vw_2 st3
  have za1_3 : w.heap.size < w3.heap.size := by omega
  have ea1_0_3 : w3.cell? ⟨w.heap.size, 0, none⟩ = some (.slice A10 (List.length x1.1) c10) := (hb3.cell (by (try simp only [World.size_alloc]); (try dsimp only); omega)).trans ea1_0_2
  have ea1_1_3 : w3.cell? ⟨w.heap.size, 1, none⟩ = some (.slice A11 (List.length x1.2.1) c11) := (hb3.cell (by (try simp only [World.size_alloc]); (try dsimp only); omega)).trans ea1_1_2
  have ea1_2_3 : w3.cell? ⟨w.heap.size, 2, none⟩ = some (.slice A12 (List.length x1.2.2.1) c12) := (hb3.cell (by (try simp only [World.size_alloc]); (try dsimp only); omega)).trans ea1_2_2
  have ea1_3_3 : w3.cell? ⟨w.heap.size, 3, none⟩ = some (.int .i64 x1.2.2.2.1) := (hb3.cell (by (try simp only [World.size_alloc]); (try dsimp only); omega)).trans ea1_3_2
  have ea1_4_3 : w3.cell? ⟨w.heap.size, 4, none⟩ = some (.int .i64 x1.2.2.2.2) := (hb3.cell (by (try simp only [World.size_alloc]); (try dsimp only); omega)).trans ea1_4_2
  clear ea1_0_2 ea1_1_2 ea1_2_2 ea1_3_2 ea1_4_2
  go_wp2_with fail
  refine (C_laws_toData _ _ x1 (Ty.rd_below (by repeat' (first | (with_reducible exact Below.refl _ _) | (with_reducible assumption) | (with_reducible refine bel_set ?_ (by (try dsimp only); omega) _) | (with_reducible refine bel_alloc ?_ _) | (with_reducible refine bel_drewN ?_ _) | (with_reducible refine bel_drew ?_))) h1) s1).mono ?_
  rintro e w4 ⟨cs4_, fp4, rfl, how4, hfr4, hb4⟩
  obtain ⟨A4_0, c4_0, A4_1, c4_1, A4_2, c4_2, rfl⟩ := ow_Data how4
  have st4 : Below w3.heap.size w3 w4 := bel_trans (by repeat' (first | (with_reducible exact Below.refl _ _) | (with_reducible assumption) | (with_reducible refine bel_set ?_ (by (try dsimp only); omega) _) | (with_reducible refine bel_alloc ?_ _) | (with_reducible refine bel_drewN ?_ _) | (with_reducible refine bel_drew ?_))) hb4
  have zz4 : w3.heap.size + 0 ≤ w4.heap.size := by have := hb4.size; (try simp only [World.size_alloc] at this); omega
  have vw_4 : Below w.heap.size w w4 := bel_trans vw_3 st4
  have za1_4 : w.heap.size < w4.heap.size := by omega
  have ea1_0_4 : w4.cell? ⟨w.heap.size, 0, none⟩ = some (.slice A10 (List.length x1.1) c10) := (hb4.cell (by (try simp only [World.size_alloc]); (try dsimp only); omega)).trans ea1_0_3
  have ea1_1_4 : w4.cell? ⟨w.heap.size, 1, none⟩ = some (.slice A11 (List.length x1.2.1) c11) := (hb4.cell (by (try simp only [World.size_alloc]); (try dsimp only); omega)).trans ea1_1_3
  have ea1_2_4 : w4.cell? ⟨w.heap.size, 2, none⟩ = some (.slice A12 (List.length x1.2.2.1) c12) := (hb4.cell (by (try simp only [World.size_alloc]); (try dsimp only); omega)).trans ea1_2_3
  have ea1_3_4 : w4.cell? ⟨w.heap.size, 3, none⟩ = some (.int .i64 x1.2.2.2.1) := (hb4.cell (by (try simp only [World.size_alloc]); (try dsimp only); omega)).trans ea1_3_3
  have ea1_4_4 : w4.cell? ⟨w.heap.size, 4, none⟩ = some (.int .i64 x1.2.2.2.2) := (hb4.cell (by (try simp only [World.size_alloc]); (try dsimp only); omega)).trans ea1_4_3
  clear ea1_0_3 ea1_1_3 ea1_2_3 ea1_3_3 ea1_4_3
  have frX1 : FrI (w3.heap.size + 0) w4.heap.size fp4 := hfr4.mono (by (try simp only [World.size_alloc]); omega) (Nat.le_refl _)
  have vX1_4 : Below w4.heap.size w4 w4 := Below.refl _ _
  go_wp2_with fail
  refine (C_impl_VerifyData _ a0 _ x1 (Ty.ow_rd (Ty.ow_bel (by repeat' (first | (with_reducible exact Below.refl _ _) | (with_reducible assumption) | (with_reducible refine bel_set ?_ (by (try dsimp only); omega) _) | (with_reducible refine bel_alloc ?_ _) | (with_reducible refine bel_drewN ?_ _) | (with_reducible refine bel_drew ?_))) how4)) i0 s1).mono ?_
  rintro e w5 ⟨rfl, hb5⟩
  have st5 : Below w4.heap.size w4 w5 := bel_trans (by repeat' (first | (with_reducible exact Below.refl _ _) | (with_reducible assumption) | (with_reducible refine bel_set ?_ (by (try dsimp only); omega) _) | (with_reducible refine bel_alloc ?_ _) | (with_reducible refine bel_drewN ?_ _) | (with_reducible refine bel_drew ?_))) hb5
  have zz5 : w4.heap.size + 1 ≤ w5.heap.size := by have := hb5.size; (try simp only [World.size_alloc] at this); omega
  have vw_5 : Below w.heap.size w w5 := bel_trans vw_4 st5
  have vX1_5 : Below w4.heap.size w4 w5 := st5
  have za1_5 : w.heap.size < w5.heap.size := by omega
  have ea1_0_5 : w5.cell? ⟨w.heap.size, 0, none⟩ = some (.slice A10 (List.length x1.1) c10) := (hb5.cell (by (try simp only [World.size_alloc]); (try dsimp only); omega)).trans ((World.cell?_alloc_lt _ _ _ (by (try simp only [World.size_alloc]); (try dsimp only); omega)).trans ea1_0_4)
  have ea1_1_5 : w5.cell? ⟨w.heap.size, 1, none⟩ = some (.slice A11 (List.length x1.2.1) c11) := (hb5.cell (by (try simp only [World.size_alloc]); (try dsimp only); omega)).trans ((World.cell?_alloc_lt _ _ _ (by (try simp only [World.size_alloc]); (try dsimp only); omega)).trans ea1_1_4)
  have ea1_2_5 : w5.cell? ⟨w.heap.size, 2, none⟩ = some (.slice A12 (List.length x1.2.2.1) c12) := (hb5.cell (by (try simp only [World.size_alloc]); (try dsimp only); omega)).trans ((World.cell?_alloc_lt _ _ _ (by (try simp only [World.size_alloc]); (try dsimp only); omega)).trans ea1_2_4)
  have ea1_3_5 : w5.cell? ⟨w.heap.size, 3, none⟩ = some (.int .i64 x1.2.2.2.1) := (hb5.cell (by (try simp only [World.size_alloc]); (try dsimp only); omega)).trans ((World.cell?_alloc_lt _ _ _ (by (try simp only [World.size_alloc]); (try dsimp only); omega)).trans ea1_3_4)
  have ea1_4_5 : w5.cell? ⟨w.heap.size, 4, none⟩ = some (.int .i64 x1.2.2.2.2) := (hb5.cell (by (try simp only [World.size_alloc]); (try dsimp only); omega)).trans ((World.cell?_alloc_lt _ _ _ (by (try simp only [World.size_alloc]); (try dsimp only); omega)).trans ea1_4_4)
  have zx1_5 : w4.heap.size < w5.heap.size := by omega
  have ex1_0_5 : w5.cell? ⟨w4.heap.size, 0, none⟩ = some (.slice A4_0 (List.length x1.1) c4_0) := (hb5.cell (by (try simp only [World.size_alloc]); (try dsimp only); omega)).trans ((cell_new w4 32 #[.slice A4_0 (List.length x1.1) c4_0, .slice A4_1 (List.length x1.2.1) c4_1, .slice A4_2 (List.length x1.2.2.1) c4_2, .int .i64 x1.2.2.2.1, .int .i64 x1.2.2.2.2] 0 (by first | rfl | (simp only [World.size_alloc]))) : _ = some (Value.slice A4_0 (List.length x1.1) c4_0))
  have ex1_1_5 : w5.cell? ⟨w4.heap.size, 1, none⟩ = some (.slice A4_1 (List.length x1.2.1) c4_1) := (hb5.cell (by (try simp only [World.size_alloc]); (try dsimp only); omega)).trans ((cell_new w4 32 #[.slice A4_0 (List.length x1.1) c4_0, .slice A4_1 (List.length x1.2.1) c4_1, .slice A4_2 (List.length x1.2.2.1) c4_2, .int .i64 x1.2.2.2.1, .int .i64 x1.2.2.2.2] 1 (by first | rfl | (simp only [World.size_alloc]))) : _ = some (Value.slice A4_1 (List.length x1.2.1) c4_1))
  have ex1_2_5 : w5.cell? ⟨w4.heap.size, 2, none⟩ = some (.slice A4_2 (List.length x1.2.2.1) c4_2) := (hb5.cell (by (try simp only [World.size_alloc]); (try dsimp only); omega)).trans ((cell_new w4 32 #[.slice A4_0 (List.length x1.1) c4_0, .slice A4_1 (List.length x1.2.1) c4_1, .slice A4_2 (List.length x1.2.2.1) c4_2, .int .i64 x1.2.2.2.1, .int .i64 x1.2.2.2.2] 2 (by first | rfl | (simp only [World.size_alloc]))) : _ = some (Value.slice A4_2 (List.length x1.2.2.1) c4_2))
  have ex1_3_5 : w5.cell? ⟨w4.heap.size, 3, none⟩ = some (.int .i64 x1.2.2.2.1) := (hb5.cell (by (try simp only [World.size_alloc]); (try dsimp only); omega)).trans ((cell_new w4 32 #[.slice A4_0 (List.length x1.1) c4_0, .slice A4_1 (List.length x1.2.1) c4_1, .slice A4_2 (List.length x1.2.2.1) c4_2, .int .i64 x1.2.2.2.1, .int .i64 x1.2.2.2.2] 3 (by first | rfl | (simp only [World.size_alloc]))) : _ = some (Value.int .i64 x1.2.2.2.1))
  have ex1_4_5 : w5.cell? ⟨w4.heap.size, 4, none⟩ = some (.int .i64 x1.2.2.2.2) := (hb5.cell (by (try simp only [World.size_alloc]); (try dsimp only); omega)).trans ((cell_new w4 32 #[.slice A4_0 (List.length x1.1) c4_0, .slice A4_1 (List.length x1.2.1) c4_1, .slice A4_2 (List.length x1.2.2.1) c4_2, .int .i64 x1.2.2.2.1, .int .i64 x1.2.2.2.2] 4 (by first | rfl | (simp only [World.size_alloc]))) : _ = some (Value.int .i64 x1.2.2.2.2))
  clear ea1_0_4 ea1_1_4 ea1_2_4 ea1_3_4 ea1_4_4
  have hq0 : ((f_VerifyData a0 x1) != (f_VerifyData a0 x1)) = false := by simp
  have HSq1 : Hid (∀ W, Below w5.heap.size w5 W → Below w5.heap.size w5 W ∧ W.cell? ⟨w.heap.size, 0, none⟩ = some (.slice A10 (List.length x1.1) c10) ∧ W.cell? ⟨w.heap.size, 1, none⟩ = some (.slice A11 (List.length x1.2.1) c11) ∧ W.cell? ⟨w.heap.size, 2, none⟩ = some (.slice A12 (List.length x1.2.2.1) c12) ∧ W.cell? ⟨w.heap.size, 3, none⟩ = some (.int .i64 x1.2.2.2.1) ∧ W.cell? ⟨w.heap.size, 4, none⟩ = some (.int .i64 x1.2.2.2.2) ∧ W.cell? ⟨w4.heap.size, 0, none⟩ = some (.slice A4_0 (List.length x1.1) c4_0) ∧ W.cell? ⟨w4.heap.size, 1, none⟩ = some (.slice A4_1 (List.length x1.2.1) c4_1) ∧ W.cell? ⟨w4.heap.size, 2, none⟩ = some (.slice A4_2 (List.length x1.2.2.1) c4_2) ∧ W.cell? ⟨w4.heap.size, 3, none⟩ = some (.int .i64 x1.2.2.2.1) ∧ W.cell? ⟨w4.heap.size, 4, none⟩ = some (.int .i64 x1.2.2.2.2)) := fun W hW => ⟨hW, (hW.cell za1_5).trans ea1_0_5, (hW.cell za1_5).trans ea1_1_5, (hW.cell za1_5).trans ea1_2_5, (hW.cell za1_5).trans ea1_3_5, (hW.cell za1_5).trans ea1_4_5, (hW.cell zx1_5).trans ex1_0_5, (hW.cell zx1_5).trans ex1_1_5, (hW.cell zx1_5).trans ex1_2_5, (hW.cell zx1_5).trans ex1_3_5, (hW.cell zx1_5).trans ex1_4_5⟩
  go_wp2_with fail
  go_region_held3 (fun W => Below w5.heap.size w5 W ∧ W.cell? ⟨w.heap.size, 0, none⟩ = some (.slice A10 (List.length x1.1) c10) ∧ W.cell? ⟨w.heap.size, 1, none⟩ = some (.slice A11 (List.length x1.2.1) c11) ∧ W.cell? ⟨w.heap.size, 2, none⟩ = some (.slice A12 (List.length x1.2.2.1) c12) ∧ W.cell? ⟨w.heap.size, 3, none⟩ = some (.int .i64 x1.2.2.2.1) ∧ W.cell? ⟨w.heap.size, 4, none⟩ = some (.int .i64 x1.2.2.2.2) ∧ W.cell? ⟨w4.heap.size, 0, none⟩ = some (.slice A4_0 (List.length x1.1) c4_0) ∧ W.cell? ⟨w4.heap.size, 1, none⟩ = some (.slice A4_1 (List.length x1.2.1) c4_1) ∧ W.cell? ⟨w4.heap.size, 2, none⟩ = some (.slice A4_2 (List.length x1.2.2.1) c4_2) ∧ W.cell? ⟨w4.heap.size, 3, none⟩ = some (.int .i64 x1.2.2.2.1) ∧ W.cell? ⟨w4.heap.size, 4, none⟩ = some (.int .i64 x1.2.2.2.2)) (exact HSq1.out _ (by repeat' (first | (with_reducible exact Below.refl _ _) | (with_reducible assumption) | (with_reducible refine bel_set ?_ (by (try dsimp only); omega) _) | (with_reducible refine bel_alloc ?_ _) | (with_reducible refine bel_drewN ?_ _) | (with_reducible refine bel_drew ?_))))
    (first
      | (go_at_call 17; (with_reducible refine (C_laws_toData _ _ x1 (Ty.rd_below (by repeat' (first | (with_reducible exact Below.refl _ _) | (with_reducible assumption) | (with_reducible refine bel_set ?_ (by (try dsimp only); omega) _) | (with_reducible refine bel_alloc ?_ _) | (with_reducible refine bel_drewN ?_ _) | (with_reducible refine bel_drew ?_))) h1) s1).mono ?_); rintro e wq ⟨csq, fpq, rfl, howq, hfrq, hbq⟩; have hvq : Below w5.heap.size w5 wq := bel_trans (by repeat' (first | (with_reducible exact Below.refl _ _) | (with_reducible assumption) | (with_reducible refine bel_set ?_ (by (try dsimp only); omega) _) | (with_reducible refine bel_alloc ?_ _) | (with_reducible refine bel_drewN ?_ _) | (with_reducible refine bel_drew ?_))) hbq; have hxq : Below w4.heap.size w4 wq := bel_trans vX1_5 hvq)
      | (go_at_call 19; (with_reducible refine (C_laws_eqData _ _ _ x1 (Ty.rd_below hxq (Ty.ow_rd how4)) (Ty.ow_rd howq)).mono ?_); rintro e w6 ⟨rfl, hb6⟩; have hvz : Below w5.heap.size w5 w6 := bel_trans hvq hb6))
  have st6 : Below w5.heap.size w5 w6 := hvz
  clear hvz
  have zz6 : w5.heap.size ≤ w6.heap.size := st6.size
  have vw_6 : Below w.heap.size w w6 := bel_trans vw_5 st6
  have vX1_6 : Below w4.heap.size w4 w6 := bel_trans vX1_5 st6
  have za1_6 : w.heap.size < w6.heap.size := by omega
  have ea1_0_6 : w6.cell? ⟨w.heap.size, 0, none⟩ = some (.slice A10 (List.length x1.1) c10) := (st6.cell za1_5).trans ea1_0_5
  have ea1_1_6 : w6.cell? ⟨w.heap.size, 1, none⟩ = some (.slice A11 (List.length x1.2.1) c11) := (st6.cell za1_5).trans ea1_1_5
  have ea1_2_6 : w6.cell? ⟨w.heap.size, 2, none⟩ = some (.slice A12 (List.length x1.2.2.1) c12) := (st6.cell za1_5).trans ea1_2_5
  have ea1_3_6 : w6.cell? ⟨w.heap.size, 3, none⟩ = some (.int .i64 x1.2.2.2.1) := (st6.cell za1_5).trans ea1_3_5
  have ea1_4_6 : w6.cell? ⟨w.heap.size, 4, none⟩ = some (.int .i64 x1.2.2.2.2) := (st6.cell za1_5).trans ea1_4_5
  have zx1_6 : w4.heap.size < w6.heap.size := by omega
  have ex1_0_6 : w6.cell? ⟨w4.heap.size, 0, none⟩ = some (.slice A4_0 (List.length x1.1) c4_0) := (st6.cell zx1_5).trans ex1_0_5
  have ex1_1_6 : w6.cell? ⟨w4.heap.size, 1, none⟩ = some (.slice A4_1 (List.length x1.2.1) c4_1) := (st6.cell zx1_5).trans ex1_1_5
  have ex1_2_6 : w6.cell? ⟨w4.heap.size, 2, none⟩ = some (.slice A4_2 (List.length x1.2.2.1) c4_2) := (st6.cell zx1_5).trans ex1_2_5
  have ex1_3_6 : w6.cell? ⟨w4.heap.size, 3, none⟩ = some (.int .i64 x1.2.2.2.1) := (st6.cell zx1_5).trans ex1_3_5
  have ex1_4_6 : w6.cell? ⟨w4.heap.size, 4, none⟩ = some (.int .i64 x1.2.2.2.2) := (st6.cell zx1_5).trans ex1_4_5
  clear ea1_0_5 ea1_1_5 ea1_2_5 ea1_3_5 ea1_4_5 ex1_0_5 ex1_1_5 ex1_2_5 ex1_3_5 ex1_4_5
  go_wp2_with fail
  go_ret
  exact ⟨rfl, vw_6⟩
end Go.Proofs.Ytbikangfobdjlaa
