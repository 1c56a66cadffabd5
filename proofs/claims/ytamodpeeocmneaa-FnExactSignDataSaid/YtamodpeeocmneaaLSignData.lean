/- The law FnExactSignData, walked out of the contracts. Printed by a program. -/
import Derived.Test.YtamodpeeocmneaaSgd
import Derived.Deep.RegionHeld3
namespace Go.Proofs.Ytamodpeeocmneaa
open Go.RowKit
set_option linter.unusedVariables false
set_option linter.unusedSimpArgs false

set_option maxRecDepth 100000 in
set_option maxHeartbeats 4000000 in
theorem L_SignData (w : World) (a0 : Int) (i0 : -9223372036854775808 ≤ a0 ∧ a0 ≤ 9223372036854775807) (cs1 : List Value) (x1 : Ty.D tData) (h1 : Ty.rd w tData cs1 x1) :
    Calls Try.prog 3 #[.int .i64 a0, .agg cs1.toArray] w (RetB w true) := by
  obtain ⟨A10, c10, A11, c11, A12, c12, rfl, _, _, _, _, _⟩ := rd_Data h1
  go_enter Try.func3, Try.ntmps3
  go_wp2_with fail
  refine (C_laws_szData _ _ x1 1048576 (Ty.rd_below (by repeat' (first | (with_reducible exact Below.refl _ _) | (with_reducible assumption) | (with_reducible refine bel_set ?_ (by (try dsimp only); omega) _) | (with_reducible refine bel_alloc ?_ _) | (with_reducible refine bel_drewN ?_ _) | (with_reducible refine bel_drew ?_))) h1) (by omega) (by omega)).mono ?_
  rintro e w1 ⟨r1, rfl, hr1, hb1⟩
  have st1 : Below w.heap.size w w1 := bel_trans (by repeat' (first | (with_reducible exact Below.refl _ _) | (with_reducible assumption) | (with_reducible refine bel_set ?_ (by (try dsimp only); omega) _) | (with_reducible refine bel_alloc ?_ _) | (with_reducible refine bel_drewN ?_ _) | (with_reducible refine bel_drew ?_))) hb1
  have zz1 : w.heap.size + 1 ≤ w1.heap.size := by have := hb1.size; (try simp only [World.size_alloc] at this); omega
  have vw_1 : Below w.heap.size w w1 := st1
  have za1_1 : w.heap.size < w1.heap.size := by omega
  have ea1_0_1 : w1.cell? ⟨w.heap.size, 0, none⟩ = some (.slice A10 (List.length x1.1) c10) := (hb1.cell (by (try simp only [World.size_alloc]); (try dsimp only); omega)).trans ((cell_new w 27 #[.slice A10 (List.length x1.1) c10, .slice A11 (List.length x1.2.1) c11, .slice A12 (List.length x1.2.2.1) c12, .int .i64 x1.2.2.2.1, .int .i64 x1.2.2.2.2] 0 (by first | rfl | (simp only [World.size_alloc]))) : _ = some (Value.slice A10 (List.length x1.1) c10))
  have ea1_1_1 : w1.cell? ⟨w.heap.size, 1, none⟩ = some (.slice A11 (List.length x1.2.1) c11) := (hb1.cell (by (try simp only [World.size_alloc]); (try dsimp only); omega)).trans ((cell_new w 27 #[.slice A10 (List.length x1.1) c10, .slice A11 (List.length x1.2.1) c11, .slice A12 (List.length x1.2.2.1) c12, .int .i64 x1.2.2.2.1, .int .i64 x1.2.2.2.2] 1 (by first | rfl | (simp only [World.size_alloc]))) : _ = some (Value.slice A11 (List.length x1.2.1) c11))
  have ea1_2_1 : w1.cell? ⟨w.heap.size, 2, none⟩ = some (.slice A12 (List.length x1.2.2.1) c12) := (hb1.cell (by (try simp only [World.size_alloc]); (try dsimp only); omega)).trans ((cell_new w 27 #[.slice A10 (List.length x1.1) c10, .slice A11 (List.length x1.2.1) c11, .slice A12 (List.length x1.2.2.1) c12, .int .i64 x1.2.2.2.1, .int .i64 x1.2.2.2.2] 2 (by first | rfl | (simp only [World.size_alloc]))) : _ = some (Value.slice A12 (List.length x1.2.2.1) c12))
  have ea1_3_1 : w1.cell? ⟨w.heap.size, 3, none⟩ = some (.int .i64 x1.2.2.2.1) := (hb1.cell (by (try simp only [World.size_alloc]); (try dsimp only); omega)).trans ((cell_new w 27 #[.slice A10 (List.length x1.1) c10, .slice A11 (List.length x1.2.1) c11, .slice A12 (List.length x1.2.2.1) c12, .int .i64 x1.2.2.2.1, .int .i64 x1.2.2.2.2] 3 (by first | rfl | (simp only [World.size_alloc]))) : _ = some (Value.int .i64 x1.2.2.2.1))
  have ea1_4_1 : w1.cell? ⟨w.heap.size, 4, none⟩ = some (.int .i64 x1.2.2.2.2) := (hb1.cell (by (try simp only [World.size_alloc]); (try dsimp only); omega)).trans ((cell_new w 27 #[.slice A10 (List.length x1.1) c10, .slice A11 (List.length x1.2.1) c11, .slice A12 (List.length x1.2.2.1) c12, .int .i64 x1.2.2.2.1, .int .i64 x1.2.2.2.2] 4 (by first | rfl | (simp only [World.size_alloc]))) : _ = some (Value.int .i64 x1.2.2.2.2))
  rcases hr1 with rfl | ⟨p1, q1⟩
  · go_wp2
    go_ret
    exact ⟨rfl, vw_1⟩
  have s1 : Ty.bulk tData x1 ≤ 1048576 := by omega
  go_wp2_with fail
  refine (C_laws_toData _ _ x1 (Ty.rd_below (by repeat' (first | (with_reducible exact Below.refl _ _) | (with_reducible assumption) | (with_reducible refine bel_set ?_ (by (try dsimp only); omega) _) | (with_reducible refine bel_alloc ?_ _) | (with_reducible refine bel_drewN ?_ _) | (with_reducible refine bel_drew ?_))) h1) s1).mono ?_
  rintro e w2 ⟨cs2_, fp2, rfl, how2, hfr2, hb2⟩
  obtain ⟨A2_0, c2_0, A2_1, c2_1, A2_2, c2_2, rfl⟩ := ow_Data how2
  have st2 : Below w1.heap.size w1 w2 := bel_trans (by repeat' (first | (with_reducible exact Below.refl _ _) | (with_reducible assumption) | (with_reducible refine bel_set ?_ (by (try dsimp only); omega) _) | (with_reducible refine bel_alloc ?_ _) | (with_reducible refine bel_drewN ?_ _) | (with_reducible refine bel_drew ?_))) hb2
  have zz2 : w1.heap.size + 0 ≤ w2.heap.size := by have := hb2.size; (try simp only [World.size_alloc] at this); omega
  have vw_2 : Below w.heap.size w w2 := bel_trans vw_1 st2
  have za1_2 : w.heap.size < w2.heap.size := by omega
  have ea1_0_2 : w2.cell? ⟨w.heap.size, 0, none⟩ = some (.slice A10 (List.length x1.1) c10) := (hb2.cell (by (try simp only [World.size_alloc]); (try dsimp only); omega)).trans ea1_0_1
  have ea1_1_2 : w2.cell? ⟨w.heap.size, 1, none⟩ = some (.slice A11 (List.length x1.2.1) c11) := (hb2.cell (by (try simp only [World.size_alloc]); (try dsimp only); omega)).trans ea1_1_1
  have ea1_2_2 : w2.cell? ⟨w.heap.size, 2, none⟩ = some (.slice A12 (List.length x1.2.2.1) c12) := (hb2.cell (by (try simp only [World.size_alloc]); (try dsimp only); omega)).trans ea1_2_1
  have ea1_3_2 : w2.cell? ⟨w.heap.size, 3, none⟩ = some (.int .i64 x1.2.2.2.1) := (hb2.cell (by (try simp only [World.size_alloc]); (try dsimp only); omega)).trans ea1_3_1
  have ea1_4_2 : w2.cell? ⟨w.heap.size, 4, none⟩ = some (.int .i64 x1.2.2.2.2) := (hb2.cell (by (try simp only [World.size_alloc]); (try dsimp only); omega)).trans ea1_4_1
  clear ea1_0_1 ea1_1_1 ea1_2_1 ea1_3_1 ea1_4_1
  have vtp1_2 : Below w2.heap.size w2 w2 := Below.refl _ _
  go_wp2_with fail
  refine (C_spec_SignData _ a0 _ x1 (Ty.ow_rd (Ty.ow_bel (by repeat' (first | (with_reducible exact Below.refl _ _) | (with_reducible assumption) | (with_reducible refine bel_set ?_ (by (try dsimp only); omega) _) | (with_reducible refine bel_alloc ?_ _) | (with_reducible refine bel_drewN ?_ _) | (with_reducible refine bel_drew ?_))) how2)) i0 s1).mono ?_
  rintro e w3 ⟨cs3_, fp3, rfl, how3, hfr3, hb3⟩
  have st3 : Below w2.heap.size w2 w3 := bel_trans (by repeat' (first | (with_reducible exact Below.refl _ _) | (with_reducible assumption) | (with_reducible refine bel_set ?_ (by (try dsimp only); omega) _) | (with_reducible refine bel_alloc ?_ _) | (with_reducible refine bel_drewN ?_ _) | (with_reducible refine bel_drew ?_))) hb3
  have zz3 : w2.heap.size + 0 ≤ w3.heap.size := by have := hb3.size; (try simp only [World.size_alloc] at this); omega
  have vw_3 : Below w.heap.size w w3 := bel_trans vw_2 st3
  have za1_3 : w.heap.size < w3.heap.size := by omega
  have ea1_0_3 : w3.cell? ⟨w.heap.size, 0, none⟩ = some (.slice A10 (List.length x1.1) c10) := (hb3.cell (by (try simp only [World.size_alloc]); (try dsimp only); omega)).trans ea1_0_2
  have ea1_1_3 : w3.cell? ⟨w.heap.size, 1, none⟩ = some (.slice A11 (List.length x1.2.1) c11) := (hb3.cell (by (try simp only [World.size_alloc]); (try dsimp only); omega)).trans ea1_1_2
  have ea1_2_3 : w3.cell? ⟨w.heap.size, 2, none⟩ = some (.slice A12 (List.length x1.2.2.1) c12) := (hb3.cell (by (try simp only [World.size_alloc]); (try dsimp only); omega)).trans ea1_2_2
  have ea1_3_3 : w3.cell? ⟨w.heap.size, 3, none⟩ = some (.int .i64 x1.2.2.2.1) := (hb3.cell (by (try simp only [World.size_alloc]); (try dsimp only); omega)).trans ea1_3_2
  have ea1_4_3 : w3.cell? ⟨w.heap.size, 4, none⟩ = some (.int .i64 x1.2.2.2.2) := (hb3.cell (by (try simp only [World.size_alloc]); (try dsimp only); omega)).trans ea1_4_2
  clear ea1_0_2 ea1_1_2 ea1_2_2 ea1_3_2 ea1_4_2
  obtain ⟨A3_0, c3_0, A3_1, c3_1, A3_2, c3_2, rfl⟩ := ow_Data how3
  have frW0 : FrI (w2.heap.size + 0) w3.heap.size fp3 := hfr3.mono (by (try simp only [World.size_alloc]); omega) (Nat.le_refl _)
  have vW0_3 : Below w3.heap.size w3 w3 := Below.refl _ _
  go_wp2_with fail
  refine (C_laws_toData _ _ x1 (Ty.rd_below (by repeat' (first | (with_reducible exact Below.refl _ _) | (with_reducible assumption) | (with_reducible refine bel_set ?_ (by (try dsimp only); omega) _) | (with_reducible refine bel_alloc ?_ _) | (with_reducible refine bel_drewN ?_ _) | (with_reducible refine bel_drew ?_))) h1) s1).mono ?_
  rintro e w4 ⟨cs4_, fp4, rfl, how4, hfr4, hb4⟩
  obtain ⟨A4_0, c4_0, A4_1, c4_1, A4_2, c4_2, rfl⟩ := ow_Data how4
  have st4 : Below w3.heap.size w3 w4 := bel_trans (by repeat' (first | (with_reducible exact Below.refl _ _) | (with_reducible assumption) | (with_reducible refine bel_set ?_ (by (try dsimp only); omega) _) | (with_reducible refine bel_alloc ?_ _) | (with_reducible refine bel_drewN ?_ _) | (with_reducible refine bel_drew ?_))) hb4
  have zz4 : w3.heap.size + 1 ≤ w4.heap.size := by have := hb4.size; (try simp only [World.size_alloc] at this); omega
  have vw_4 : Below w.heap.size w w4 := bel_trans vw_3 st4
  have vW0_4 : Below w3.heap.size w3 w4 := st4
  have za1_4 : w.heap.size < w4.heap.size := by omega
  have ea1_0_4 : w4.cell? ⟨w.heap.size, 0, none⟩ = some (.slice A10 (List.length x1.1) c10) := (hb4.cell (by (try simp only [World.size_alloc]); (try dsimp only); omega)).trans ((World.cell?_alloc_lt _ _ _ (by (try simp only [World.size_alloc]); (try dsimp only); omega)).trans ea1_0_3)
  have ea1_1_4 : w4.cell? ⟨w.heap.size, 1, none⟩ = some (.slice A11 (List.length x1.2.1) c11) := (hb4.cell (by (try simp only [World.size_alloc]); (try dsimp only); omega)).trans ((World.cell?_alloc_lt _ _ _ (by (try simp only [World.size_alloc]); (try dsimp only); omega)).trans ea1_1_3)
  have ea1_2_4 : w4.cell? ⟨w.heap.size, 2, none⟩ = some (.slice A12 (List.length x1.2.2.1) c12) := (hb4.cell (by (try simp only [World.size_alloc]); (try dsimp only); omega)).trans ((World.cell?_alloc_lt _ _ _ (by (try simp only [World.size_alloc]); (try dsimp only); omega)).trans ea1_2_3)
  have ea1_3_4 : w4.cell? ⟨w.heap.size, 3, none⟩ = some (.int .i64 x1.2.2.2.1) := (hb4.cell (by (try simp only [World.size_alloc]); (try dsimp only); omega)).trans ((World.cell?_alloc_lt _ _ _ (by (try simp only [World.size_alloc]); (try dsimp only); omega)).trans ea1_3_3)
  have ea1_4_4 : w4.cell? ⟨w.heap.size, 4, none⟩ = some (.int .i64 x1.2.2.2.2) := (hb4.cell (by (try simp only [World.size_alloc]); (try dsimp only); omega)).trans ((World.cell?_alloc_lt _ _ _ (by (try simp only [World.size_alloc]); (try dsimp only); omega)).trans ea1_4_3)
  have zw0_4 : w3.heap.size < w4.heap.size := by omega
  have ew0_0_4 : w4.cell? ⟨w3.heap.size, 0, none⟩ = some (.slice A3_0 (List.length (f_SignData a0 x1).1) c3_0) := (hb4.cell (by (try simp only [World.size_alloc]); (try dsimp only); omega)).trans ((cell_new w3 31 #[.slice A3_0 (List.length (f_SignData a0 x1).1) c3_0, .slice A3_1 (List.length (f_SignData a0 x1).2.1) c3_1, .slice A3_2 (List.length (f_SignData a0 x1).2.2.1) c3_2, .int .i64 (f_SignData a0 x1).2.2.2.1, .int .i64 (f_SignData a0 x1).2.2.2.2] 0 (by first | rfl | (simp only [World.size_alloc]))) : _ = some (Value.slice A3_0 (List.length (f_SignData a0 x1).1) c3_0))
  have ew0_1_4 : w4.cell? ⟨w3.heap.size, 1, none⟩ = some (.slice A3_1 (List.length (f_SignData a0 x1).2.1) c3_1) := (hb4.cell (by (try simp only [World.size_alloc]); (try dsimp only); omega)).trans ((cell_new w3 31 #[.slice A3_0 (List.length (f_SignData a0 x1).1) c3_0, .slice A3_1 (List.length (f_SignData a0 x1).2.1) c3_1, .slice A3_2 (List.length (f_SignData a0 x1).2.2.1) c3_2, .int .i64 (f_SignData a0 x1).2.2.2.1, .int .i64 (f_SignData a0 x1).2.2.2.2] 1 (by first | rfl | (simp only [World.size_alloc]))) : _ = some (Value.slice A3_1 (List.length (f_SignData a0 x1).2.1) c3_1))
  have ew0_2_4 : w4.cell? ⟨w3.heap.size, 2, none⟩ = some (.slice A3_2 (List.length (f_SignData a0 x1).2.2.1) c3_2) := (hb4.cell (by (try simp only [World.size_alloc]); (try dsimp only); omega)).trans ((cell_new w3 31 #[.slice A3_0 (List.length (f_SignData a0 x1).1) c3_0, .slice A3_1 (List.length (f_SignData a0 x1).2.1) c3_1, .slice A3_2 (List.length (f_SignData a0 x1).2.2.1) c3_2, .int .i64 (f_SignData a0 x1).2.2.2.1, .int .i64 (f_SignData a0 x1).2.2.2.2] 2 (by first | rfl | (simp only [World.size_alloc]))) : _ = some (Value.slice A3_2 (List.length (f_SignData a0 x1).2.2.1) c3_2))
  have ew0_3_4 : w4.cell? ⟨w3.heap.size, 3, none⟩ = some (.int .i64 (f_SignData a0 x1).2.2.2.1) := (hb4.cell (by (try simp only [World.size_alloc]); (try dsimp only); omega)).trans ((cell_new w3 31 #[.slice A3_0 (List.length (f_SignData a0 x1).1) c3_0, .slice A3_1 (List.length (f_SignData a0 x1).2.1) c3_1, .slice A3_2 (List.length (f_SignData a0 x1).2.2.1) c3_2, .int .i64 (f_SignData a0 x1).2.2.2.1, .int .i64 (f_SignData a0 x1).2.2.2.2] 3 (by first | rfl | (simp only [World.size_alloc]))) : _ = some (Value.int .i64 (f_SignData a0 x1).2.2.2.1))
  have ew0_4_4 : w4.cell? ⟨w3.heap.size, 4, none⟩ = some (.int .i64 (f_SignData a0 x1).2.2.2.2) := (hb4.cell (by (try simp only [World.size_alloc]); (try dsimp only); omega)).trans ((cell_new w3 31 #[.slice A3_0 (List.length (f_SignData a0 x1).1) c3_0, .slice A3_1 (List.length (f_SignData a0 x1).2.1) c3_1, .slice A3_2 (List.length (f_SignData a0 x1).2.2.1) c3_2, .int .i64 (f_SignData a0 x1).2.2.2.1, .int .i64 (f_SignData a0 x1).2.2.2.2] 4 (by first | rfl | (simp only [World.size_alloc]))) : _ = some (Value.int .i64 (f_SignData a0 x1).2.2.2.2))
  clear ea1_0_3 ea1_1_3 ea1_2_3 ea1_3_3 ea1_4_3
  have frX1 : FrI (w3.heap.size + 1) w4.heap.size fp4 := hfr4.mono (by (try simp only [World.size_alloc]); omega) (Nat.le_refl _)
  have vX1_4 : Below w4.heap.size w4 w4 := Below.refl _ _
  go_wp2_with fail
  refine (C_impl_SignData _ a0 _ x1 (Ty.ow_rd (Ty.ow_bel (by repeat' (first | (with_reducible exact Below.refl _ _) | (with_reducible assumption) | (with_reducible refine bel_set ?_ (by (try dsimp only); omega) _) | (with_reducible refine bel_alloc ?_ _) | (with_reducible refine bel_drewN ?_ _) | (with_reducible refine bel_drew ?_))) how4)) i0 s1).mono ?_
  rintro e w5 ⟨cs5_, fp5, rfl, how5, hfr5, hb5⟩
  have st5 : Below w4.heap.size w4 w5 := bel_trans (by repeat' (first | (with_reducible exact Below.refl _ _) | (with_reducible assumption) | (with_reducible refine bel_set ?_ (by (try dsimp only); omega) _) | (with_reducible refine bel_alloc ?_ _) | (with_reducible refine bel_drewN ?_ _) | (with_reducible refine bel_drew ?_))) hb5
  have zz5 : w4.heap.size + 1 ≤ w5.heap.size := by have := hb5.size; (try simp only [World.size_alloc] at this); omega
  have vw_5 : Below w.heap.size w w5 := bel_trans vw_4 st5
  have vW0_5 : Below w3.heap.size w3 w5 := bel_trans vW0_4 st5
  have vX1_5 : Below w4.heap.size w4 w5 := st5
  have za1_5 : w.heap.size < w5.heap.size := by omega
  have ea1_0_5 : w5.cell? ⟨w.heap.size, 0, none⟩ = some (.slice A10 (List.length x1.1) c10) := (hb5.cell (by (try simp only [World.size_alloc]); (try dsimp only); omega)).trans ((World.cell?_alloc_lt _ _ _ (by (try simp only [World.size_alloc]); (try dsimp only); omega)).trans ea1_0_4)
  have ea1_1_5 : w5.cell? ⟨w.heap.size, 1, none⟩ = some (.slice A11 (List.length x1.2.1) c11) := (hb5.cell (by (try simp only [World.size_alloc]); (try dsimp only); omega)).trans ((World.cell?_alloc_lt _ _ _ (by (try simp only [World.size_alloc]); (try dsimp only); omega)).trans ea1_1_4)
  have ea1_2_5 : w5.cell? ⟨w.heap.size, 2, none⟩ = some (.slice A12 (List.length x1.2.2.1) c12) := (hb5.cell (by (try simp only [World.size_alloc]); (try dsimp only); omega)).trans ((World.cell?_alloc_lt _ _ _ (by (try simp only [World.size_alloc]); (try dsimp only); omega)).trans ea1_2_4)
  have ea1_3_5 : w5.cell? ⟨w.heap.size, 3, none⟩ = some (.int .i64 x1.2.2.2.1) := (hb5.cell (by (try simp only [World.size_alloc]); (try dsimp only); omega)).trans ((World.cell?_alloc_lt _ _ _ (by (try simp only [World.size_alloc]); (try dsimp only); omega)).trans ea1_3_4)
  have ea1_4_5 : w5.cell? ⟨w.heap.size, 4, none⟩ = some (.int .i64 x1.2.2.2.2) := (hb5.cell (by (try simp only [World.size_alloc]); (try dsimp only); omega)).trans ((World.cell?_alloc_lt _ _ _ (by (try simp only [World.size_alloc]); (try dsimp only); omega)).trans ea1_4_4)
  have zw0_5 : w3.heap.size < w5.heap.size := by omega
  have ew0_0_5 : w5.cell? ⟨w3.heap.size, 0, none⟩ = some (.slice A3_0 (List.length (f_SignData a0 x1).1) c3_0) := (hb5.cell (by (try simp only [World.size_alloc]); (try dsimp only); omega)).trans ((World.cell?_alloc_lt _ _ _ (by (try simp only [World.size_alloc]); (try dsimp only); omega)).trans ew0_0_4)
  have ew0_1_5 : w5.cell? ⟨w3.heap.size, 1, none⟩ = some (.slice A3_1 (List.length (f_SignData a0 x1).2.1) c3_1) := (hb5.cell (by (try simp only [World.size_alloc]); (try dsimp only); omega)).trans ((World.cell?_alloc_lt _ _ _ (by (try simp only [World.size_alloc]); (try dsimp only); omega)).trans ew0_1_4)
  have ew0_2_5 : w5.cell? ⟨w3.heap.size, 2, none⟩ = some (.slice A3_2 (List.length (f_SignData a0 x1).2.2.1) c3_2) := (hb5.cell (by (try simp only [World.size_alloc]); (try dsimp only); omega)).trans ((World.cell?_alloc_lt _ _ _ (by (try simp only [World.size_alloc]); (try dsimp only); omega)).trans ew0_2_4)
  have ew0_3_5 : w5.cell? ⟨w3.heap.size, 3, none⟩ = some (.int .i64 (f_SignData a0 x1).2.2.2.1) := (hb5.cell (by (try simp only [World.size_alloc]); (try dsimp only); omega)).trans ((World.cell?_alloc_lt _ _ _ (by (try simp only [World.size_alloc]); (try dsimp only); omega)).trans ew0_3_4)
  have ew0_4_5 : w5.cell? ⟨w3.heap.size, 4, none⟩ = some (.int .i64 (f_SignData a0 x1).2.2.2.2) := (hb5.cell (by (try simp only [World.size_alloc]); (try dsimp only); omega)).trans ((World.cell?_alloc_lt _ _ _ (by (try simp only [World.size_alloc]); (try dsimp only); omega)).trans ew0_4_4)
  have zx1_5 : w4.heap.size < w5.heap.size := by omega
  have ex1_0_5 : w5.cell? ⟨w4.heap.size, 0, none⟩ = some (.slice A4_0 (List.length x1.1) c4_0) := (hb5.cell (by (try simp only [World.size_alloc]); (try dsimp only); omega)).trans ((cell_new w4 31 #[.slice A4_0 (List.length x1.1) c4_0, .slice A4_1 (List.length x1.2.1) c4_1, .slice A4_2 (List.length x1.2.2.1) c4_2, .int .i64 x1.2.2.2.1, .int .i64 x1.2.2.2.2] 0 (by first | rfl | (simp only [World.size_alloc]))) : _ = some (Value.slice A4_0 (List.length x1.1) c4_0))
  have ex1_1_5 : w5.cell? ⟨w4.heap.size, 1, none⟩ = some (.slice A4_1 (List.length x1.2.1) c4_1) := (hb5.cell (by (try simp only [World.size_alloc]); (try dsimp only); omega)).trans ((cell_new w4 31 #[.slice A4_0 (List.length x1.1) c4_0, .slice A4_1 (List.length x1.2.1) c4_1, .slice A4_2 (List.length x1.2.2.1) c4_2, .int .i64 x1.2.2.2.1, .int .i64 x1.2.2.2.2] 1 (by first | rfl | (simp only [World.size_alloc]))) : _ = some (Value.slice A4_1 (List.length x1.2.1) c4_1))
  have ex1_2_5 : w5.cell? ⟨w4.heap.size, 2, none⟩ = some (.slice A4_2 (List.length x1.2.2.1) c4_2) := (hb5.cell (by (try simp only [World.size_alloc]); (try dsimp only); omega)).trans ((cell_new w4 31 #[.slice A4_0 (List.length x1.1) c4_0, .slice A4_1 (List.length x1.2.1) c4_1, .slice A4_2 (List.length x1.2.2.1) c4_2, .int .i64 x1.2.2.2.1, .int .i64 x1.2.2.2.2] 2 (by first | rfl | (simp only [World.size_alloc]))) : _ = some (Value.slice A4_2 (List.length x1.2.2.1) c4_2))
  have ex1_3_5 : w5.cell? ⟨w4.heap.size, 3, none⟩ = some (.int .i64 x1.2.2.2.1) := (hb5.cell (by (try simp only [World.size_alloc]); (try dsimp only); omega)).trans ((cell_new w4 31 #[.slice A4_0 (List.length x1.1) c4_0, .slice A4_1 (List.length x1.2.1) c4_1, .slice A4_2 (List.length x1.2.2.1) c4_2, .int .i64 x1.2.2.2.1, .int .i64 x1.2.2.2.2] 3 (by first | rfl | (simp only [World.size_alloc]))) : _ = some (Value.int .i64 x1.2.2.2.1))
  have ex1_4_5 : w5.cell? ⟨w4.heap.size, 4, none⟩ = some (.int .i64 x1.2.2.2.2) := (hb5.cell (by (try simp only [World.size_alloc]); (try dsimp only); omega)).trans ((cell_new w4 31 #[.slice A4_0 (List.length x1.1) c4_0, .slice A4_1 (List.length x1.2.1) c4_1, .slice A4_2 (List.length x1.2.2.1) c4_2, .int .i64 x1.2.2.2.1, .int .i64 x1.2.2.2.2] 4 (by first | rfl | (simp only [World.size_alloc]))) : _ = some (Value.int .i64 x1.2.2.2.2))
  clear ea1_0_4 ea1_1_4 ea1_2_4 ea1_3_4 ea1_4_4 ew0_0_4 ew0_1_4 ew0_2_4 ew0_3_4 ew0_4_4
  obtain ⟨A5_0, c5_0, A5_1, c5_1, A5_2, c5_2, rfl⟩ := ow_Data how5
  have frG0 : FrI (w4.heap.size + 1) w5.heap.size fp5 := hfr5.mono (by (try simp only [World.size_alloc]); omega) (Nat.le_refl _)
  have vG0_5 : Below w5.heap.size w5 w5 := Below.refl _ _
  go_wp2_with fail
  refine (C_laws_eqData _ _ _ (f_SignData a0 x1) (Ty.ow_rd (Ty.ow_bel (by repeat' (first | (with_reducible exact Below.refl _ _) | (with_reducible assumption) | (with_reducible refine bel_set ?_ (by (try dsimp only); omega) _) | (with_reducible refine bel_alloc ?_ _) | (with_reducible refine bel_drewN ?_ _) | (with_reducible refine bel_drew ?_))) how5)) (Ty.ow_rd (Ty.ow_bel (by repeat' (first | (with_reducible exact Below.refl _ _) | (with_reducible assumption) | (with_reducible refine bel_set ?_ (by (try dsimp only); omega) _) | (with_reducible refine bel_alloc ?_ _) | (with_reducible refine bel_drewN ?_ _) | (with_reducible refine bel_drew ?_))) how3))).mono ?_
  rintro e w6 ⟨rfl, hb6⟩
  have st6 : Below w5.heap.size w5 w6 := bel_trans (by repeat' (first | (with_reducible exact Below.refl _ _) | (with_reducible assumption) | (with_reducible refine bel_set ?_ (by (try dsimp only); omega) _) | (with_reducible refine bel_alloc ?_ _) | (with_reducible refine bel_drewN ?_ _) | (with_reducible refine bel_drew ?_))) hb6
  have zz6 : w5.heap.size + 1 ≤ w6.heap.size := by have := hb6.size; (try simp only [World.size_alloc] at this); omega
  have vw_6 : Below w.heap.size w w6 := bel_trans vw_5 st6
  have vW0_6 : Below w3.heap.size w3 w6 := bel_trans vW0_5 st6
  have vX1_6 : Below w4.heap.size w4 w6 := bel_trans vX1_5 st6
  have vG0_6 : Below w5.heap.size w5 w6 := st6
  have za1_6 : w.heap.size < w6.heap.size := by omega
  have ea1_0_6 : w6.cell? ⟨w.heap.size, 0, none⟩ = some (.slice A10 (List.length x1.1) c10) := (hb6.cell (by (try simp only [World.size_alloc]); (try dsimp only); omega)).trans ((World.cell?_alloc_lt _ _ _ (by (try simp only [World.size_alloc]); (try dsimp only); omega)).trans ea1_0_5)
  have ea1_1_6 : w6.cell? ⟨w.heap.size, 1, none⟩ = some (.slice A11 (List.length x1.2.1) c11) := (hb6.cell (by (try simp only [World.size_alloc]); (try dsimp only); omega)).trans ((World.cell?_alloc_lt _ _ _ (by (try simp only [World.size_alloc]); (try dsimp only); omega)).trans ea1_1_5)
  have ea1_2_6 : w6.cell? ⟨w.heap.size, 2, none⟩ = some (.slice A12 (List.length x1.2.2.1) c12) := (hb6.cell (by (try simp only [World.size_alloc]); (try dsimp only); omega)).trans ((World.cell?_alloc_lt _ _ _ (by (try simp only [World.size_alloc]); (try dsimp only); omega)).trans ea1_2_5)
  have ea1_3_6 : w6.cell? ⟨w.heap.size, 3, none⟩ = some (.int .i64 x1.2.2.2.1) := (hb6.cell (by (try simp only [World.size_alloc]); (try dsimp only); omega)).trans ((World.cell?_alloc_lt _ _ _ (by (try simp only [World.size_alloc]); (try dsimp only); omega)).trans ea1_3_5)
  have ea1_4_6 : w6.cell? ⟨w.heap.size, 4, none⟩ = some (.int .i64 x1.2.2.2.2) := (hb6.cell (by (try simp only [World.size_alloc]); (try dsimp only); omega)).trans ((World.cell?_alloc_lt _ _ _ (by (try simp only [World.size_alloc]); (try dsimp only); omega)).trans ea1_4_5)
  have zw0_6 : w3.heap.size < w6.heap.size := by omega
  have ew0_0_6 : w6.cell? ⟨w3.heap.size, 0, none⟩ = some (.slice A3_0 (List.length (f_SignData a0 x1).1) c3_0) := (hb6.cell (by (try simp only [World.size_alloc]); (try dsimp only); omega)).trans ((World.cell?_alloc_lt _ _ _ (by (try simp only [World.size_alloc]); (try dsimp only); omega)).trans ew0_0_5)
  have ew0_1_6 : w6.cell? ⟨w3.heap.size, 1, none⟩ = some (.slice A3_1 (List.length (f_SignData a0 x1).2.1) c3_1) := (hb6.cell (by (try simp only [World.size_alloc]); (try dsimp only); omega)).trans ((World.cell?_alloc_lt _ _ _ (by (try simp only [World.size_alloc]); (try dsimp only); omega)).trans ew0_1_5)
  have ew0_2_6 : w6.cell? ⟨w3.heap.size, 2, none⟩ = some (.slice A3_2 (List.length (f_SignData a0 x1).2.2.1) c3_2) := (hb6.cell (by (try simp only [World.size_alloc]); (try dsimp only); omega)).trans ((World.cell?_alloc_lt _ _ _ (by (try simp only [World.size_alloc]); (try dsimp only); omega)).trans ew0_2_5)
  have ew0_3_6 : w6.cell? ⟨w3.heap.size, 3, none⟩ = some (.int .i64 (f_SignData a0 x1).2.2.2.1) := (hb6.cell (by (try simp only [World.size_alloc]); (try dsimp only); omega)).trans ((World.cell?_alloc_lt _ _ _ (by (try simp only [World.size_alloc]); (try dsimp only); omega)).trans ew0_3_5)
  have ew0_4_6 : w6.cell? ⟨w3.heap.size, 4, none⟩ = some (.int .i64 (f_SignData a0 x1).2.2.2.2) := (hb6.cell (by (try simp only [World.size_alloc]); (try dsimp only); omega)).trans ((World.cell?_alloc_lt _ _ _ (by (try simp only [World.size_alloc]); (try dsimp only); omega)).trans ew0_4_5)
  have zx1_6 : w4.heap.size < w6.heap.size := by omega
  have ex1_0_6 : w6.cell? ⟨w4.heap.size, 0, none⟩ = some (.slice A4_0 (List.length x1.1) c4_0) := (hb6.cell (by (try simp only [World.size_alloc]); (try dsimp only); omega)).trans ((World.cell?_alloc_lt _ _ _ (by (try simp only [World.size_alloc]); (try dsimp only); omega)).trans ex1_0_5)
  have ex1_1_6 : w6.cell? ⟨w4.heap.size, 1, none⟩ = some (.slice A4_1 (List.length x1.2.1) c4_1) := (hb6.cell (by (try simp only [World.size_alloc]); (try dsimp only); omega)).trans ((World.cell?_alloc_lt _ _ _ (by (try simp only [World.size_alloc]); (try dsimp only); omega)).trans ex1_1_5)
  have ex1_2_6 : w6.cell? ⟨w4.heap.size, 2, none⟩ = some (.slice A4_2 (List.length x1.2.2.1) c4_2) := (hb6.cell (by (try simp only [World.size_alloc]); (try dsimp only); omega)).trans ((World.cell?_alloc_lt _ _ _ (by (try simp only [World.size_alloc]); (try dsimp only); omega)).trans ex1_2_5)
  have ex1_3_6 : w6.cell? ⟨w4.heap.size, 3, none⟩ = some (.int .i64 x1.2.2.2.1) := (hb6.cell (by (try simp only [World.size_alloc]); (try dsimp only); omega)).trans ((World.cell?_alloc_lt _ _ _ (by (try simp only [World.size_alloc]); (try dsimp only); omega)).trans ex1_3_5)
  have ex1_4_6 : w6.cell? ⟨w4.heap.size, 4, none⟩ = some (.int .i64 x1.2.2.2.2) := (hb6.cell (by (try simp only [World.size_alloc]); (try dsimp only); omega)).trans ((World.cell?_alloc_lt _ _ _ (by (try simp only [World.size_alloc]); (try dsimp only); omega)).trans ex1_4_5)
  have zg0_6 : w5.heap.size < w6.heap.size := by omega
  have eg0_0_6 : w6.cell? ⟨w5.heap.size, 0, none⟩ = some (.slice A5_0 (List.length (f_SignData a0 x1).1) c5_0) := (hb6.cell (by (try simp only [World.size_alloc]); (try dsimp only); omega)).trans ((cell_new w5 31 #[.slice A5_0 (List.length (f_SignData a0 x1).1) c5_0, .slice A5_1 (List.length (f_SignData a0 x1).2.1) c5_1, .slice A5_2 (List.length (f_SignData a0 x1).2.2.1) c5_2, .int .i64 (f_SignData a0 x1).2.2.2.1, .int .i64 (f_SignData a0 x1).2.2.2.2] 0 (by first | rfl | (simp only [World.size_alloc]))) : _ = some (Value.slice A5_0 (List.length (f_SignData a0 x1).1) c5_0))
  have eg0_1_6 : w6.cell? ⟨w5.heap.size, 1, none⟩ = some (.slice A5_1 (List.length (f_SignData a0 x1).2.1) c5_1) := (hb6.cell (by (try simp only [World.size_alloc]); (try dsimp only); omega)).trans ((cell_new w5 31 #[.slice A5_0 (List.length (f_SignData a0 x1).1) c5_0, .slice A5_1 (List.length (f_SignData a0 x1).2.1) c5_1, .slice A5_2 (List.length (f_SignData a0 x1).2.2.1) c5_2, .int .i64 (f_SignData a0 x1).2.2.2.1, .int .i64 (f_SignData a0 x1).2.2.2.2] 1 (by first | rfl | (simp only [World.size_alloc]))) : _ = some (Value.slice A5_1 (List.length (f_SignData a0 x1).2.1) c5_1))
  have eg0_2_6 : w6.cell? ⟨w5.heap.size, 2, none⟩ = some (.slice A5_2 (List.length (f_SignData a0 x1).2.2.1) c5_2) := (hb6.cell (by (try simp only [World.size_alloc]); (try dsimp only); omega)).trans ((cell_new w5 31 #[.slice A5_0 (List.length (f_SignData a0 x1).1) c5_0, .slice A5_1 (List.length (f_SignData a0 x1).2.1) c5_1, .slice A5_2 (List.length (f_SignData a0 x1).2.2.1) c5_2, .int .i64 (f_SignData a0 x1).2.2.2.1, .int .i64 (f_SignData a0 x1).2.2.2.2] 2 (by first | rfl | (simp only [World.size_alloc]))) : _ = some (Value.slice A5_2 (List.length (f_SignData a0 x1).2.2.1) c5_2))
  have eg0_3_6 : w6.cell? ⟨w5.heap.size, 3, none⟩ = some (.int .i64 (f_SignData a0 x1).2.2.2.1) := (hb6.cell (by (try simp only [World.size_alloc]); (try dsimp only); omega)).trans ((cell_new w5 31 #[.slice A5_0 (List.length (f_SignData a0 x1).1) c5_0, .slice A5_1 (List.length (f_SignData a0 x1).2.1) c5_1, .slice A5_2 (List.length (f_SignData a0 x1).2.2.1) c5_2, .int .i64 (f_SignData a0 x1).2.2.2.1, .int .i64 (f_SignData a0 x1).2.2.2.2] 3 (by first | rfl | (simp only [World.size_alloc]))) : _ = some (Value.int .i64 (f_SignData a0 x1).2.2.2.1))
  have eg0_4_6 : w6.cell? ⟨w5.heap.size, 4, none⟩ = some (.int .i64 (f_SignData a0 x1).2.2.2.2) := (hb6.cell (by (try simp only [World.size_alloc]); (try dsimp only); omega)).trans ((cell_new w5 31 #[.slice A5_0 (List.length (f_SignData a0 x1).1) c5_0, .slice A5_1 (List.length (f_SignData a0 x1).2.1) c5_1, .slice A5_2 (List.length (f_SignData a0 x1).2.2.1) c5_2, .int .i64 (f_SignData a0 x1).2.2.2.1, .int .i64 (f_SignData a0 x1).2.2.2.2] 4 (by first | rfl | (simp only [World.size_alloc]))) : _ = some (Value.int .i64 (f_SignData a0 x1).2.2.2.2))
  clear ea1_0_5 ea1_1_5 ea1_2_5 ea1_3_5 ea1_4_5 ew0_0_5 ew0_1_5 ew0_2_5 ew0_3_5 ew0_4_5 ex1_0_5 ex1_1_5 ex1_2_5 ex1_3_5 ex1_4_5
  have HSq1 : Hid (∀ W, Below w6.heap.size w6 W → Below w6.heap.size w6 W ∧ W.cell? ⟨w.heap.size, 0, none⟩ = some (.slice A10 (List.length x1.1) c10) ∧ W.cell? ⟨w.heap.size, 1, none⟩ = some (.slice A11 (List.length x1.2.1) c11) ∧ W.cell? ⟨w.heap.size, 2, none⟩ = some (.slice A12 (List.length x1.2.2.1) c12) ∧ W.cell? ⟨w.heap.size, 3, none⟩ = some (.int .i64 x1.2.2.2.1) ∧ W.cell? ⟨w.heap.size, 4, none⟩ = some (.int .i64 x1.2.2.2.2) ∧ W.cell? ⟨w3.heap.size, 0, none⟩ = some (.slice A3_0 (List.length (f_SignData a0 x1).1) c3_0) ∧ W.cell? ⟨w3.heap.size, 1, none⟩ = some (.slice A3_1 (List.length (f_SignData a0 x1).2.1) c3_1) ∧ W.cell? ⟨w3.heap.size, 2, none⟩ = some (.slice A3_2 (List.length (f_SignData a0 x1).2.2.1) c3_2) ∧ W.cell? ⟨w3.heap.size, 3, none⟩ = some (.int .i64 (f_SignData a0 x1).2.2.2.1) ∧ W.cell? ⟨w3.heap.size, 4, none⟩ = some (.int .i64 (f_SignData a0 x1).2.2.2.2) ∧ W.cell? ⟨w4.heap.size, 0, none⟩ = some (.slice A4_0 (List.length x1.1) c4_0) ∧ W.cell? ⟨w4.heap.size, 1, none⟩ = some (.slice A4_1 (List.length x1.2.1) c4_1) ∧ W.cell? ⟨w4.heap.size, 2, none⟩ = some (.slice A4_2 (List.length x1.2.2.1) c4_2) ∧ W.cell? ⟨w4.heap.size, 3, none⟩ = some (.int .i64 x1.2.2.2.1) ∧ W.cell? ⟨w4.heap.size, 4, none⟩ = some (.int .i64 x1.2.2.2.2) ∧ W.cell? ⟨w5.heap.size, 0, none⟩ = some (.slice A5_0 (List.length (f_SignData a0 x1).1) c5_0) ∧ W.cell? ⟨w5.heap.size, 1, none⟩ = some (.slice A5_1 (List.length (f_SignData a0 x1).2.1) c5_1) ∧ W.cell? ⟨w5.heap.size, 2, none⟩ = some (.slice A5_2 (List.length (f_SignData a0 x1).2.2.1) c5_2) ∧ W.cell? ⟨w5.heap.size, 3, none⟩ = some (.int .i64 (f_SignData a0 x1).2.2.2.1) ∧ W.cell? ⟨w5.heap.size, 4, none⟩ = some (.int .i64 (f_SignData a0 x1).2.2.2.2)) := fun W hW => ⟨hW, (hW.cell za1_6).trans ea1_0_6, (hW.cell za1_6).trans ea1_1_6, (hW.cell za1_6).trans ea1_2_6, (hW.cell za1_6).trans ea1_3_6, (hW.cell za1_6).trans ea1_4_6, (hW.cell zw0_6).trans ew0_0_6, (hW.cell zw0_6).trans ew0_1_6, (hW.cell zw0_6).trans ew0_2_6, (hW.cell zw0_6).trans ew0_3_6, (hW.cell zw0_6).trans ew0_4_6, (hW.cell zx1_6).trans ex1_0_6, (hW.cell zx1_6).trans ex1_1_6, (hW.cell zx1_6).trans ex1_2_6, (hW.cell zx1_6).trans ex1_3_6, (hW.cell zx1_6).trans ex1_4_6, (hW.cell zg0_6).trans eg0_0_6, (hW.cell zg0_6).trans eg0_1_6, (hW.cell zg0_6).trans eg0_2_6, (hW.cell zg0_6).trans eg0_3_6, (hW.cell zg0_6).trans eg0_4_6⟩
  go_wp2_with fail
  go_region_held3 (fun W => Below w6.heap.size w6 W ∧ W.cell? ⟨w.heap.size, 0, none⟩ = some (.slice A10 (List.length x1.1) c10) ∧ W.cell? ⟨w.heap.size, 1, none⟩ = some (.slice A11 (List.length x1.2.1) c11) ∧ W.cell? ⟨w.heap.size, 2, none⟩ = some (.slice A12 (List.length x1.2.2.1) c12) ∧ W.cell? ⟨w.heap.size, 3, none⟩ = some (.int .i64 x1.2.2.2.1) ∧ W.cell? ⟨w.heap.size, 4, none⟩ = some (.int .i64 x1.2.2.2.2) ∧ W.cell? ⟨w3.heap.size, 0, none⟩ = some (.slice A3_0 (List.length (f_SignData a0 x1).1) c3_0) ∧ W.cell? ⟨w3.heap.size, 1, none⟩ = some (.slice A3_1 (List.length (f_SignData a0 x1).2.1) c3_1) ∧ W.cell? ⟨w3.heap.size, 2, none⟩ = some (.slice A3_2 (List.length (f_SignData a0 x1).2.2.1) c3_2) ∧ W.cell? ⟨w3.heap.size, 3, none⟩ = some (.int .i64 (f_SignData a0 x1).2.2.2.1) ∧ W.cell? ⟨w3.heap.size, 4, none⟩ = some (.int .i64 (f_SignData a0 x1).2.2.2.2) ∧ W.cell? ⟨w4.heap.size, 0, none⟩ = some (.slice A4_0 (List.length x1.1) c4_0) ∧ W.cell? ⟨w4.heap.size, 1, none⟩ = some (.slice A4_1 (List.length x1.2.1) c4_1) ∧ W.cell? ⟨w4.heap.size, 2, none⟩ = some (.slice A4_2 (List.length x1.2.2.1) c4_2) ∧ W.cell? ⟨w4.heap.size, 3, none⟩ = some (.int .i64 x1.2.2.2.1) ∧ W.cell? ⟨w4.heap.size, 4, none⟩ = some (.int .i64 x1.2.2.2.2) ∧ W.cell? ⟨w5.heap.size, 0, none⟩ = some (.slice A5_0 (List.length (f_SignData a0 x1).1) c5_0) ∧ W.cell? ⟨w5.heap.size, 1, none⟩ = some (.slice A5_1 (List.length (f_SignData a0 x1).2.1) c5_1) ∧ W.cell? ⟨w5.heap.size, 2, none⟩ = some (.slice A5_2 (List.length (f_SignData a0 x1).2.2.1) c5_2) ∧ W.cell? ⟨w5.heap.size, 3, none⟩ = some (.int .i64 (f_SignData a0 x1).2.2.2.1) ∧ W.cell? ⟨w5.heap.size, 4, none⟩ = some (.int .i64 (f_SignData a0 x1).2.2.2.2)) (exact HSq1.out _ (by repeat' (first | (with_reducible exact Below.refl _ _) | (with_reducible assumption) | (with_reducible refine bel_set ?_ (by (try dsimp only); omega) _) | (with_reducible refine bel_alloc ?_ _) | (with_reducible refine bel_drewN ?_ _) | (with_reducible refine bel_drew ?_))))
    (first
      | (go_at_call 17; (with_reducible refine (C_laws_toData _ _ x1 (Ty.rd_below (by repeat' (first | (with_reducible exact Below.refl _ _) | (with_reducible assumption) | (with_reducible refine bel_set ?_ (by (try dsimp only); omega) _) | (with_reducible refine bel_alloc ?_ _) | (with_reducible refine bel_drewN ?_ _) | (with_reducible refine bel_drew ?_))) h1) s1).mono ?_); rintro e wq ⟨csq, fpq, rfl, howq, hfrq, hbq⟩; have hvq : Below w6.heap.size w6 wq := bel_trans (by repeat' (first | (with_reducible exact Below.refl _ _) | (with_reducible assumption) | (with_reducible refine bel_set ?_ (by (try dsimp only); omega) _) | (with_reducible refine bel_alloc ?_ _) | (with_reducible refine bel_drewN ?_ _) | (with_reducible refine bel_drew ?_))) hbq; have hxq : Below w4.heap.size w4 wq := bel_trans vX1_6 hvq)
      | (go_at_call 19; (with_reducible refine (C_laws_eqData _ _ _ x1 (Ty.rd_below hxq (Ty.ow_rd how4)) (Ty.ow_rd howq)).mono ?_); rintro e w7 ⟨rfl, hb7⟩; have hvz : Below w6.heap.size w6 w7 := bel_trans hvq hb7))
  have st7 : Below w6.heap.size w6 w7 := hvz
  clear hvz
  have zz7 : w6.heap.size ≤ w7.heap.size := st7.size
  have vw_7 : Below w.heap.size w w7 := bel_trans vw_6 st7
  have vW0_7 : Below w3.heap.size w3 w7 := bel_trans vW0_6 st7
  have vX1_7 : Below w4.heap.size w4 w7 := bel_trans vX1_6 st7
  have vG0_7 : Below w5.heap.size w5 w7 := bel_trans vG0_6 st7
  have za1_7 : w.heap.size < w7.heap.size := by omega
  have ea1_0_7 : w7.cell? ⟨w.heap.size, 0, none⟩ = some (.slice A10 (List.length x1.1) c10) := (st7.cell za1_6).trans ea1_0_6
  have ea1_1_7 : w7.cell? ⟨w.heap.size, 1, none⟩ = some (.slice A11 (List.length x1.2.1) c11) := (st7.cell za1_6).trans ea1_1_6
  have ea1_2_7 : w7.cell? ⟨w.heap.size, 2, none⟩ = some (.slice A12 (List.length x1.2.2.1) c12) := (st7.cell za1_6).trans ea1_2_6
  have ea1_3_7 : w7.cell? ⟨w.heap.size, 3, none⟩ = some (.int .i64 x1.2.2.2.1) := (st7.cell za1_6).trans ea1_3_6
  have ea1_4_7 : w7.cell? ⟨w.heap.size, 4, none⟩ = some (.int .i64 x1.2.2.2.2) := (st7.cell za1_6).trans ea1_4_6
  have zw0_7 : w3.heap.size < w7.heap.size := by omega
  have ew0_0_7 : w7.cell? ⟨w3.heap.size, 0, none⟩ = some (.slice A3_0 (List.length (f_SignData a0 x1).1) c3_0) := (st7.cell zw0_6).trans ew0_0_6
  have ew0_1_7 : w7.cell? ⟨w3.heap.size, 1, none⟩ = some (.slice A3_1 (List.length (f_SignData a0 x1).2.1) c3_1) := (st7.cell zw0_6).trans ew0_1_6
  have ew0_2_7 : w7.cell? ⟨w3.heap.size, 2, none⟩ = some (.slice A3_2 (List.length (f_SignData a0 x1).2.2.1) c3_2) := (st7.cell zw0_6).trans ew0_2_6
  have ew0_3_7 : w7.cell? ⟨w3.heap.size, 3, none⟩ = some (.int .i64 (f_SignData a0 x1).2.2.2.1) := (st7.cell zw0_6).trans ew0_3_6
  have ew0_4_7 : w7.cell? ⟨w3.heap.size, 4, none⟩ = some (.int .i64 (f_SignData a0 x1).2.2.2.2) := (st7.cell zw0_6).trans ew0_4_6
  have zx1_7 : w4.heap.size < w7.heap.size := by omega
  have ex1_0_7 : w7.cell? ⟨w4.heap.size, 0, none⟩ = some (.slice A4_0 (List.length x1.1) c4_0) := (st7.cell zx1_6).trans ex1_0_6
  have ex1_1_7 : w7.cell? ⟨w4.heap.size, 1, none⟩ = some (.slice A4_1 (List.length x1.2.1) c4_1) := (st7.cell zx1_6).trans ex1_1_6
  have ex1_2_7 : w7.cell? ⟨w4.heap.size, 2, none⟩ = some (.slice A4_2 (List.length x1.2.2.1) c4_2) := (st7.cell zx1_6).trans ex1_2_6
  have ex1_3_7 : w7.cell? ⟨w4.heap.size, 3, none⟩ = some (.int .i64 x1.2.2.2.1) := (st7.cell zx1_6).trans ex1_3_6
  have ex1_4_7 : w7.cell? ⟨w4.heap.size, 4, none⟩ = some (.int .i64 x1.2.2.2.2) := (st7.cell zx1_6).trans ex1_4_6
  have zg0_7 : w5.heap.size < w7.heap.size := by omega
  have eg0_0_7 : w7.cell? ⟨w5.heap.size, 0, none⟩ = some (.slice A5_0 (List.length (f_SignData a0 x1).1) c5_0) := (st7.cell zg0_6).trans eg0_0_6
  have eg0_1_7 : w7.cell? ⟨w5.heap.size, 1, none⟩ = some (.slice A5_1 (List.length (f_SignData a0 x1).2.1) c5_1) := (st7.cell zg0_6).trans eg0_1_6
  have eg0_2_7 : w7.cell? ⟨w5.heap.size, 2, none⟩ = some (.slice A5_2 (List.length (f_SignData a0 x1).2.2.1) c5_2) := (st7.cell zg0_6).trans eg0_2_6
  have eg0_3_7 : w7.cell? ⟨w5.heap.size, 3, none⟩ = some (.int .i64 (f_SignData a0 x1).2.2.2.1) := (st7.cell zg0_6).trans eg0_3_6
  have eg0_4_7 : w7.cell? ⟨w5.heap.size, 4, none⟩ = some (.int .i64 (f_SignData a0 x1).2.2.2.2) := (st7.cell zg0_6).trans eg0_4_6
  clear ea1_0_6 ea1_1_6 ea1_2_6 ea1_3_6 ea1_4_6 ew0_0_6 ew0_1_6 ew0_2_6 ew0_3_6 ew0_4_6 ex1_0_6 ex1_1_6 ex1_2_6 ex1_3_6 ex1_4_6 eg0_0_6 eg0_1_6 eg0_2_6 eg0_3_6 eg0_4_6
  have cb1 : Ty.cntv tData x1 ≤ 100000000 := Nat.le_trans (Ty.cntv_le tData x1) (Nat.le_trans (Nat.mul_le_mul_left _ s1) (by decide))
  have cbG : Ty.cntv tData (f_SignData a0 x1) ≤ 100000000000 := N_SignData s1
  go_wp2_with fail
  refine (C_laws_markData _ _ x1 fp4 (1) (Ty.ow_bel (by repeat' (first | (with_reducible exact Below.refl _ _) | (with_reducible assumption) | (with_reducible refine bel_set ?_ (by (try dsimp only); omega) _) | (with_reducible refine bel_alloc ?_ _) | (with_reducible refine bel_drewN ?_ _) | (with_reducible refine bel_drew ?_))) how4) frX1.1 (by omega) (by omega)).mono ?_
  rintro e w8 ⟨rfl, hm8, hk8⟩
  have zz8 : w7.heap.size ≤ w8.heap.size := hk8.size
  have szl8 : w.heap.size ≤ w3.heap.size := vw_3.size
  have vw_8 : Below w.heap.size w w8 := vw_7.trans (hk8.below vw_7.size (fun y hy => by have := frX1.2 y hy; omega))
  have howW0_8 : Ty.ow w8 tData [.slice A3_0 (List.length (f_SignData a0 x1).1) c3_0, .slice A3_1 (List.length (f_SignData a0 x1).2.1) c3_1, .slice A3_2 (List.length (f_SignData a0 x1).2.2.1) c3_2, .int .i64 (f_SignData a0 x1).2.2.2.1, .int .i64 (f_SignData a0 x1).2.2.2.2] (f_SignData a0 x1) fp3 := Ty.ow_keep (fun y hy => (hk8.block y (Nat.lt_of_lt_of_le (Ty.ow_lt how3 y hy) vW0_7.size) (fun hy2 => by have := frW0.2 y hy; have := frX1.2 y hy2; omega)).trans (vW0_7.block y (Ty.ow_lt how3 y hy))) how3
  have vW0_8 : Below w8.heap.size w8 w8 := Below.refl _ _
  have howG0_8 : Ty.ow w8 tData [.slice A5_0 (List.length (f_SignData a0 x1).1) c5_0, .slice A5_1 (List.length (f_SignData a0 x1).2.1) c5_1, .slice A5_2 (List.length (f_SignData a0 x1).2.2.1) c5_2, .int .i64 (f_SignData a0 x1).2.2.2.1, .int .i64 (f_SignData a0 x1).2.2.2.2] (f_SignData a0 x1) fp5 := Ty.ow_keep (fun y hy => (hk8.block y (Nat.lt_of_lt_of_le (Ty.ow_lt how5 y hy) vG0_7.size) (fun hy2 => by have := frG0.2 y hy; have := frX1.2 y hy2; omega)).trans (vG0_7.block y (Ty.ow_lt how5 y hy))) how5
  have vG0_8 : Below w8.heap.size w8 w8 := Below.refl _ _
  have za1_8 : w.heap.size < w8.heap.size := by omega
  have hBa1_8 : w8.heap[w.heap.size]? = w7.heap[w.heap.size]? := hk8.block _ za1_7 (fun hy => by have := frX1.2 _ hy; omega)
  have ea1_0_8 : w8.cell? ⟨w.heap.size, 0, none⟩ = some (.slice A10 (List.length x1.1) c10) := (cell_of_heap hBa1_8 0).trans ea1_0_7
  have ea1_1_8 : w8.cell? ⟨w.heap.size, 1, none⟩ = some (.slice A11 (List.length x1.2.1) c11) := (cell_of_heap hBa1_8 1).trans ea1_1_7
  have ea1_2_8 : w8.cell? ⟨w.heap.size, 2, none⟩ = some (.slice A12 (List.length x1.2.2.1) c12) := (cell_of_heap hBa1_8 2).trans ea1_2_7
  have ea1_3_8 : w8.cell? ⟨w.heap.size, 3, none⟩ = some (.int .i64 x1.2.2.2.1) := (cell_of_heap hBa1_8 3).trans ea1_3_7
  have ea1_4_8 : w8.cell? ⟨w.heap.size, 4, none⟩ = some (.int .i64 x1.2.2.2.2) := (cell_of_heap hBa1_8 4).trans ea1_4_7
  have zw0_8 : w3.heap.size < w8.heap.size := by omega
  have hBw0_8 : w8.heap[w3.heap.size]? = w7.heap[w3.heap.size]? := hk8.block _ zw0_7 (fun hy => by have := frX1.2 _ hy; omega)
  have ew0_0_8 : w8.cell? ⟨w3.heap.size, 0, none⟩ = some (.slice A3_0 (List.length (f_SignData a0 x1).1) c3_0) := (cell_of_heap hBw0_8 0).trans ew0_0_7
  have ew0_1_8 : w8.cell? ⟨w3.heap.size, 1, none⟩ = some (.slice A3_1 (List.length (f_SignData a0 x1).2.1) c3_1) := (cell_of_heap hBw0_8 1).trans ew0_1_7
  have ew0_2_8 : w8.cell? ⟨w3.heap.size, 2, none⟩ = some (.slice A3_2 (List.length (f_SignData a0 x1).2.2.1) c3_2) := (cell_of_heap hBw0_8 2).trans ew0_2_7
  have ew0_3_8 : w8.cell? ⟨w3.heap.size, 3, none⟩ = some (.int .i64 (f_SignData a0 x1).2.2.2.1) := (cell_of_heap hBw0_8 3).trans ew0_3_7
  have ew0_4_8 : w8.cell? ⟨w3.heap.size, 4, none⟩ = some (.int .i64 (f_SignData a0 x1).2.2.2.2) := (cell_of_heap hBw0_8 4).trans ew0_4_7
  have zx1_8 : w4.heap.size < w8.heap.size := by omega
  have hBx1_8 : w8.heap[w4.heap.size]? = w7.heap[w4.heap.size]? := hk8.block _ zx1_7 (fun hy => by have := frX1.2 _ hy; omega)
  have ex1_0_8 : w8.cell? ⟨w4.heap.size, 0, none⟩ = some (.slice A4_0 (List.length x1.1) c4_0) := (cell_of_heap hBx1_8 0).trans ex1_0_7
  have ex1_1_8 : w8.cell? ⟨w4.heap.size, 1, none⟩ = some (.slice A4_1 (List.length x1.2.1) c4_1) := (cell_of_heap hBx1_8 1).trans ex1_1_7
  have ex1_2_8 : w8.cell? ⟨w4.heap.size, 2, none⟩ = some (.slice A4_2 (List.length x1.2.2.1) c4_2) := (cell_of_heap hBx1_8 2).trans ex1_2_7
  have ex1_3_8 : w8.cell? ⟨w4.heap.size, 3, none⟩ = some (.int .i64 x1.2.2.2.1) := (cell_of_heap hBx1_8 3).trans ex1_3_7
  have ex1_4_8 : w8.cell? ⟨w4.heap.size, 4, none⟩ = some (.int .i64 x1.2.2.2.2) := (cell_of_heap hBx1_8 4).trans ex1_4_7
  have zg0_8 : w5.heap.size < w8.heap.size := by omega
  have hBg0_8 : w8.heap[w5.heap.size]? = w7.heap[w5.heap.size]? := hk8.block _ zg0_7 (fun hy => by have := frX1.2 _ hy; omega)
  have eg0_0_8 : w8.cell? ⟨w5.heap.size, 0, none⟩ = some (.slice A5_0 (List.length (f_SignData a0 x1).1) c5_0) := (cell_of_heap hBg0_8 0).trans eg0_0_7
  have eg0_1_8 : w8.cell? ⟨w5.heap.size, 1, none⟩ = some (.slice A5_1 (List.length (f_SignData a0 x1).2.1) c5_1) := (cell_of_heap hBg0_8 1).trans eg0_1_7
  have eg0_2_8 : w8.cell? ⟨w5.heap.size, 2, none⟩ = some (.slice A5_2 (List.length (f_SignData a0 x1).2.2.1) c5_2) := (cell_of_heap hBg0_8 2).trans eg0_2_7
  have eg0_3_8 : w8.cell? ⟨w5.heap.size, 3, none⟩ = some (.int .i64 (f_SignData a0 x1).2.2.2.1) := (cell_of_heap hBg0_8 3).trans eg0_3_7
  have eg0_4_8 : w8.cell? ⟨w5.heap.size, 4, none⟩ = some (.int .i64 (f_SignData a0 x1).2.2.2.2) := (cell_of_heap hBg0_8 4).trans eg0_4_7
  clear ea1_0_7 ea1_1_7 ea1_2_7 ea1_3_7 ea1_4_7 ew0_0_7 ew0_1_7 ew0_2_7 ew0_3_7 ew0_4_7 ex1_0_7 ex1_1_7 ex1_2_7 ex1_3_7 ex1_4_7 eg0_0_7 eg0_1_7 eg0_2_7 eg0_3_7 eg0_4_7
  go_wp2_with fail
  refine (C_laws_eqData _ _ _ (f_SignData a0 x1) (Ty.ow_rd (Ty.ow_bel (by repeat' (first | (with_reducible exact Below.refl _ _) | (with_reducible assumption) | (with_reducible refine bel_set ?_ (by (try dsimp only); omega) _) | (with_reducible refine bel_alloc ?_ _) | (with_reducible refine bel_drewN ?_ _) | (with_reducible refine bel_drew ?_))) howG0_8)) (Ty.ow_rd (Ty.ow_bel (by repeat' (first | (with_reducible exact Below.refl _ _) | (with_reducible assumption) | (with_reducible refine bel_set ?_ (by (try dsimp only); omega) _) | (with_reducible refine bel_alloc ?_ _) | (with_reducible refine bel_drewN ?_ _) | (with_reducible refine bel_drew ?_))) howW0_8))).mono ?_
  rintro e w9 ⟨rfl, hb9⟩
  have st9 : Below w8.heap.size w8 w9 := bel_trans (by repeat' (first | (with_reducible exact Below.refl _ _) | (with_reducible assumption) | (with_reducible refine bel_set ?_ (by (try dsimp only); omega) _) | (with_reducible refine bel_alloc ?_ _) | (with_reducible refine bel_drewN ?_ _) | (with_reducible refine bel_drew ?_))) hb9
  have zz9 : w8.heap.size + 0 ≤ w9.heap.size := by have := hb9.size; (try simp only [World.size_alloc] at this); omega
  have vw_9 : Below w.heap.size w w9 := bel_trans vw_8 st9
  have vW0_9 : Below w8.heap.size w8 w9 := st9
  have vG0_9 : Below w8.heap.size w8 w9 := st9
  have za1_9 : w.heap.size < w9.heap.size := by omega
  have ea1_0_9 : w9.cell? ⟨w.heap.size, 0, none⟩ = some (.slice A10 (List.length x1.1) c10) := (hb9.cell (by (try simp only [World.size_alloc]); (try dsimp only); omega)).trans ea1_0_8
  have ea1_1_9 : w9.cell? ⟨w.heap.size, 1, none⟩ = some (.slice A11 (List.length x1.2.1) c11) := (hb9.cell (by (try simp only [World.size_alloc]); (try dsimp only); omega)).trans ea1_1_8
  have ea1_2_9 : w9.cell? ⟨w.heap.size, 2, none⟩ = some (.slice A12 (List.length x1.2.2.1) c12) := (hb9.cell (by (try simp only [World.size_alloc]); (try dsimp only); omega)).trans ea1_2_8
  have ea1_3_9 : w9.cell? ⟨w.heap.size, 3, none⟩ = some (.int .i64 x1.2.2.2.1) := (hb9.cell (by (try simp only [World.size_alloc]); (try dsimp only); omega)).trans ea1_3_8
  have ea1_4_9 : w9.cell? ⟨w.heap.size, 4, none⟩ = some (.int .i64 x1.2.2.2.2) := (hb9.cell (by (try simp only [World.size_alloc]); (try dsimp only); omega)).trans ea1_4_8
  have zw0_9 : w3.heap.size < w9.heap.size := by omega
  have ew0_0_9 : w9.cell? ⟨w3.heap.size, 0, none⟩ = some (.slice A3_0 (List.length (f_SignData a0 x1).1) c3_0) := (hb9.cell (by (try simp only [World.size_alloc]); (try dsimp only); omega)).trans ew0_0_8
  have ew0_1_9 : w9.cell? ⟨w3.heap.size, 1, none⟩ = some (.slice A3_1 (List.length (f_SignData a0 x1).2.1) c3_1) := (hb9.cell (by (try simp only [World.size_alloc]); (try dsimp only); omega)).trans ew0_1_8
  have ew0_2_9 : w9.cell? ⟨w3.heap.size, 2, none⟩ = some (.slice A3_2 (List.length (f_SignData a0 x1).2.2.1) c3_2) := (hb9.cell (by (try simp only [World.size_alloc]); (try dsimp only); omega)).trans ew0_2_8
  have ew0_3_9 : w9.cell? ⟨w3.heap.size, 3, none⟩ = some (.int .i64 (f_SignData a0 x1).2.2.2.1) := (hb9.cell (by (try simp only [World.size_alloc]); (try dsimp only); omega)).trans ew0_3_8
  have ew0_4_9 : w9.cell? ⟨w3.heap.size, 4, none⟩ = some (.int .i64 (f_SignData a0 x1).2.2.2.2) := (hb9.cell (by (try simp only [World.size_alloc]); (try dsimp only); omega)).trans ew0_4_8
  have zx1_9 : w4.heap.size < w9.heap.size := by omega
  have ex1_0_9 : w9.cell? ⟨w4.heap.size, 0, none⟩ = some (.slice A4_0 (List.length x1.1) c4_0) := (hb9.cell (by (try simp only [World.size_alloc]); (try dsimp only); omega)).trans ex1_0_8
  have ex1_1_9 : w9.cell? ⟨w4.heap.size, 1, none⟩ = some (.slice A4_1 (List.length x1.2.1) c4_1) := (hb9.cell (by (try simp only [World.size_alloc]); (try dsimp only); omega)).trans ex1_1_8
  have ex1_2_9 : w9.cell? ⟨w4.heap.size, 2, none⟩ = some (.slice A4_2 (List.length x1.2.2.1) c4_2) := (hb9.cell (by (try simp only [World.size_alloc]); (try dsimp only); omega)).trans ex1_2_8
  have ex1_3_9 : w9.cell? ⟨w4.heap.size, 3, none⟩ = some (.int .i64 x1.2.2.2.1) := (hb9.cell (by (try simp only [World.size_alloc]); (try dsimp only); omega)).trans ex1_3_8
  have ex1_4_9 : w9.cell? ⟨w4.heap.size, 4, none⟩ = some (.int .i64 x1.2.2.2.2) := (hb9.cell (by (try simp only [World.size_alloc]); (try dsimp only); omega)).trans ex1_4_8
  have zg0_9 : w5.heap.size < w9.heap.size := by omega
  have eg0_0_9 : w9.cell? ⟨w5.heap.size, 0, none⟩ = some (.slice A5_0 (List.length (f_SignData a0 x1).1) c5_0) := (hb9.cell (by (try simp only [World.size_alloc]); (try dsimp only); omega)).trans eg0_0_8
  have eg0_1_9 : w9.cell? ⟨w5.heap.size, 1, none⟩ = some (.slice A5_1 (List.length (f_SignData a0 x1).2.1) c5_1) := (hb9.cell (by (try simp only [World.size_alloc]); (try dsimp only); omega)).trans eg0_1_8
  have eg0_2_9 : w9.cell? ⟨w5.heap.size, 2, none⟩ = some (.slice A5_2 (List.length (f_SignData a0 x1).2.2.1) c5_2) := (hb9.cell (by (try simp only [World.size_alloc]); (try dsimp only); omega)).trans eg0_2_8
  have eg0_3_9 : w9.cell? ⟨w5.heap.size, 3, none⟩ = some (.int .i64 (f_SignData a0 x1).2.2.2.1) := (hb9.cell (by (try simp only [World.size_alloc]); (try dsimp only); omega)).trans eg0_3_8
  have eg0_4_9 : w9.cell? ⟨w5.heap.size, 4, none⟩ = some (.int .i64 (f_SignData a0 x1).2.2.2.2) := (hb9.cell (by (try simp only [World.size_alloc]); (try dsimp only); omega)).trans eg0_4_8
  clear ea1_0_8 ea1_1_8 ea1_2_8 ea1_3_8 ea1_4_8 ew0_0_8 ew0_1_8 ew0_2_8 ew0_3_8 ew0_4_8 ex1_0_8 ex1_1_8 ex1_2_8 ex1_3_8 ex1_4_8 eg0_0_8 eg0_1_8 eg0_2_8 eg0_3_8 eg0_4_8
  go_wp2_with fail
  refine (C_laws_markData _ _ (f_SignData a0 x1) fp5 (1) (Ty.ow_bel (by repeat' (first | (with_reducible exact Below.refl _ _) | (with_reducible assumption) | (with_reducible refine bel_set ?_ (by (try dsimp only); omega) _) | (with_reducible refine bel_alloc ?_ _) | (with_reducible refine bel_drewN ?_ _) | (with_reducible refine bel_drew ?_))) howG0_8) frG0.1 (by omega) (by omega)).mono ?_
  rintro e w10 ⟨rfl, hm10, hk10⟩
  have zz10 : w9.heap.size ≤ w10.heap.size := hk10.size
  have szl10 : w.heap.size ≤ w4.heap.size := vw_4.size
  have vw_10 : Below w.heap.size w w10 := vw_9.trans (hk10.below vw_9.size (fun y hy => by have := frG0.2 y hy; omega))
  have howW0_10 : Ty.ow w10 tData [.slice A3_0 (List.length (f_SignData a0 x1).1) c3_0, .slice A3_1 (List.length (f_SignData a0 x1).2.1) c3_1, .slice A3_2 (List.length (f_SignData a0 x1).2.2.1) c3_2, .int .i64 (f_SignData a0 x1).2.2.2.1, .int .i64 (f_SignData a0 x1).2.2.2.2] (f_SignData a0 x1) fp3 := Ty.ow_keep (fun y hy => (hk10.block y (Nat.lt_of_lt_of_le (Ty.ow_lt howW0_8 y hy) vW0_9.size) (fun hy2 => by have := frW0.2 y hy; have := frG0.2 y hy2; omega)).trans (vW0_9.block y (Ty.ow_lt howW0_8 y hy))) howW0_8
  have vW0_10 : Below w10.heap.size w10 w10 := Below.refl _ _
  have za1_10 : w.heap.size < w10.heap.size := by omega
  have hBa1_10 : w10.heap[w.heap.size]? = w9.heap[w.heap.size]? := hk10.block _ za1_9 (fun hy => by have := frG0.2 _ hy; omega)
  have ea1_0_10 : w10.cell? ⟨w.heap.size, 0, none⟩ = some (.slice A10 (List.length x1.1) c10) := (cell_of_heap hBa1_10 0).trans ea1_0_9
  have ea1_1_10 : w10.cell? ⟨w.heap.size, 1, none⟩ = some (.slice A11 (List.length x1.2.1) c11) := (cell_of_heap hBa1_10 1).trans ea1_1_9
  have ea1_2_10 : w10.cell? ⟨w.heap.size, 2, none⟩ = some (.slice A12 (List.length x1.2.2.1) c12) := (cell_of_heap hBa1_10 2).trans ea1_2_9
  have ea1_3_10 : w10.cell? ⟨w.heap.size, 3, none⟩ = some (.int .i64 x1.2.2.2.1) := (cell_of_heap hBa1_10 3).trans ea1_3_9
  have ea1_4_10 : w10.cell? ⟨w.heap.size, 4, none⟩ = some (.int .i64 x1.2.2.2.2) := (cell_of_heap hBa1_10 4).trans ea1_4_9
  have zw0_10 : w3.heap.size < w10.heap.size := by omega
  have hBw0_10 : w10.heap[w3.heap.size]? = w9.heap[w3.heap.size]? := hk10.block _ zw0_9 (fun hy => by have := frG0.2 _ hy; omega)
  have ew0_0_10 : w10.cell? ⟨w3.heap.size, 0, none⟩ = some (.slice A3_0 (List.length (f_SignData a0 x1).1) c3_0) := (cell_of_heap hBw0_10 0).trans ew0_0_9
  have ew0_1_10 : w10.cell? ⟨w3.heap.size, 1, none⟩ = some (.slice A3_1 (List.length (f_SignData a0 x1).2.1) c3_1) := (cell_of_heap hBw0_10 1).trans ew0_1_9
  have ew0_2_10 : w10.cell? ⟨w3.heap.size, 2, none⟩ = some (.slice A3_2 (List.length (f_SignData a0 x1).2.2.1) c3_2) := (cell_of_heap hBw0_10 2).trans ew0_2_9
  have ew0_3_10 : w10.cell? ⟨w3.heap.size, 3, none⟩ = some (.int .i64 (f_SignData a0 x1).2.2.2.1) := (cell_of_heap hBw0_10 3).trans ew0_3_9
  have ew0_4_10 : w10.cell? ⟨w3.heap.size, 4, none⟩ = some (.int .i64 (f_SignData a0 x1).2.2.2.2) := (cell_of_heap hBw0_10 4).trans ew0_4_9
  have zx1_10 : w4.heap.size < w10.heap.size := by omega
  have hBx1_10 : w10.heap[w4.heap.size]? = w9.heap[w4.heap.size]? := hk10.block _ zx1_9 (fun hy => by have := frG0.2 _ hy; omega)
  have ex1_0_10 : w10.cell? ⟨w4.heap.size, 0, none⟩ = some (.slice A4_0 (List.length x1.1) c4_0) := (cell_of_heap hBx1_10 0).trans ex1_0_9
  have ex1_1_10 : w10.cell? ⟨w4.heap.size, 1, none⟩ = some (.slice A4_1 (List.length x1.2.1) c4_1) := (cell_of_heap hBx1_10 1).trans ex1_1_9
  have ex1_2_10 : w10.cell? ⟨w4.heap.size, 2, none⟩ = some (.slice A4_2 (List.length x1.2.2.1) c4_2) := (cell_of_heap hBx1_10 2).trans ex1_2_9
  have ex1_3_10 : w10.cell? ⟨w4.heap.size, 3, none⟩ = some (.int .i64 x1.2.2.2.1) := (cell_of_heap hBx1_10 3).trans ex1_3_9
  have ex1_4_10 : w10.cell? ⟨w4.heap.size, 4, none⟩ = some (.int .i64 x1.2.2.2.2) := (cell_of_heap hBx1_10 4).trans ex1_4_9
  have zg0_10 : w5.heap.size < w10.heap.size := by omega
  have hBg0_10 : w10.heap[w5.heap.size]? = w9.heap[w5.heap.size]? := hk10.block _ zg0_9 (fun hy => by have := frG0.2 _ hy; omega)
  have eg0_0_10 : w10.cell? ⟨w5.heap.size, 0, none⟩ = some (.slice A5_0 (List.length (f_SignData a0 x1).1) c5_0) := (cell_of_heap hBg0_10 0).trans eg0_0_9
  have eg0_1_10 : w10.cell? ⟨w5.heap.size, 1, none⟩ = some (.slice A5_1 (List.length (f_SignData a0 x1).2.1) c5_1) := (cell_of_heap hBg0_10 1).trans eg0_1_9
  have eg0_2_10 : w10.cell? ⟨w5.heap.size, 2, none⟩ = some (.slice A5_2 (List.length (f_SignData a0 x1).2.2.1) c5_2) := (cell_of_heap hBg0_10 2).trans eg0_2_9
  have eg0_3_10 : w10.cell? ⟨w5.heap.size, 3, none⟩ = some (.int .i64 (f_SignData a0 x1).2.2.2.1) := (cell_of_heap hBg0_10 3).trans eg0_3_9
  have eg0_4_10 : w10.cell? ⟨w5.heap.size, 4, none⟩ = some (.int .i64 (f_SignData a0 x1).2.2.2.2) := (cell_of_heap hBg0_10 4).trans eg0_4_9
  clear ea1_0_9 ea1_1_9 ea1_2_9 ea1_3_9 ea1_4_9 ew0_0_9 ew0_1_9 ew0_2_9 ew0_3_9 ew0_4_9 ex1_0_9 ex1_1_9 ex1_2_9 ex1_3_9 ex1_4_9 eg0_0_9 eg0_1_9 eg0_2_9 eg0_3_9 eg0_4_9
  have frM : FrI (w4.heap.size + 1) w5.heap.size fp5 := frG0
  have vM0_10 : Below w10.heap.size w10 w10 := Below.refl _ _
  have hqm : ((1 + ((Ty.cntv tData (f_SignData a0 x1) : Nat) : Int) : Int) != 1 + ((Ty.cntv tData (f_SignData a0 x1) : Nat) : Int)) = false := by simp
  go_wp2_with fail
  refine (C_laws_heldData _ _ (f_SignData a0 x1) 1 (Ty.ow_rd (Ty.ow_bel (by repeat' (first | (with_reducible exact Below.refl _ _) | (with_reducible assumption) | (with_reducible refine bel_set ?_ (by (try dsimp only); omega) _) | (with_reducible refine bel_alloc ?_ _) | (with_reducible refine bel_drewN ?_ _) | (with_reducible refine bel_drew ?_))) hm10)) (by omega) (by omega)).mono ?_
  rintro e w11 ⟨rfl, hb11⟩
  have st11 : Below w10.heap.size w10 w11 := bel_trans (by repeat' (first | (with_reducible exact Below.refl _ _) | (with_reducible assumption) | (with_reducible refine bel_set ?_ (by (try dsimp only); omega) _) | (with_reducible refine bel_alloc ?_ _) | (with_reducible refine bel_drewN ?_ _) | (with_reducible refine bel_drew ?_))) hb11
  have zz11 : w10.heap.size + 0 ≤ w11.heap.size := by have := hb11.size; (try simp only [World.size_alloc] at this); omega
  have vw_11 : Below w.heap.size w w11 := bel_trans vw_10 st11
  have vW0_11 : Below w10.heap.size w10 w11 := st11
  have vM0_11 : Below w10.heap.size w10 w11 := st11
  have za1_11 : w.heap.size < w11.heap.size := by omega
  have ea1_0_11 : w11.cell? ⟨w.heap.size, 0, none⟩ = some (.slice A10 (List.length x1.1) c10) := (hb11.cell (by (try simp only [World.size_alloc]); (try dsimp only); omega)).trans ea1_0_10
  have ea1_1_11 : w11.cell? ⟨w.heap.size, 1, none⟩ = some (.slice A11 (List.length x1.2.1) c11) := (hb11.cell (by (try simp only [World.size_alloc]); (try dsimp only); omega)).trans ea1_1_10
  have ea1_2_11 : w11.cell? ⟨w.heap.size, 2, none⟩ = some (.slice A12 (List.length x1.2.2.1) c12) := (hb11.cell (by (try simp only [World.size_alloc]); (try dsimp only); omega)).trans ea1_2_10
  have ea1_3_11 : w11.cell? ⟨w.heap.size, 3, none⟩ = some (.int .i64 x1.2.2.2.1) := (hb11.cell (by (try simp only [World.size_alloc]); (try dsimp only); omega)).trans ea1_3_10
  have ea1_4_11 : w11.cell? ⟨w.heap.size, 4, none⟩ = some (.int .i64 x1.2.2.2.2) := (hb11.cell (by (try simp only [World.size_alloc]); (try dsimp only); omega)).trans ea1_4_10
  have zw0_11 : w3.heap.size < w11.heap.size := by omega
  have ew0_0_11 : w11.cell? ⟨w3.heap.size, 0, none⟩ = some (.slice A3_0 (List.length (f_SignData a0 x1).1) c3_0) := (hb11.cell (by (try simp only [World.size_alloc]); (try dsimp only); omega)).trans ew0_0_10
  have ew0_1_11 : w11.cell? ⟨w3.heap.size, 1, none⟩ = some (.slice A3_1 (List.length (f_SignData a0 x1).2.1) c3_1) := (hb11.cell (by (try simp only [World.size_alloc]); (try dsimp only); omega)).trans ew0_1_10
  have ew0_2_11 : w11.cell? ⟨w3.heap.size, 2, none⟩ = some (.slice A3_2 (List.length (f_SignData a0 x1).2.2.1) c3_2) := (hb11.cell (by (try simp only [World.size_alloc]); (try dsimp only); omega)).trans ew0_2_10
  have ew0_3_11 : w11.cell? ⟨w3.heap.size, 3, none⟩ = some (.int .i64 (f_SignData a0 x1).2.2.2.1) := (hb11.cell (by (try simp only [World.size_alloc]); (try dsimp only); omega)).trans ew0_3_10
  have ew0_4_11 : w11.cell? ⟨w3.heap.size, 4, none⟩ = some (.int .i64 (f_SignData a0 x1).2.2.2.2) := (hb11.cell (by (try simp only [World.size_alloc]); (try dsimp only); omega)).trans ew0_4_10
  have zx1_11 : w4.heap.size < w11.heap.size := by omega
  have ex1_0_11 : w11.cell? ⟨w4.heap.size, 0, none⟩ = some (.slice A4_0 (List.length x1.1) c4_0) := (hb11.cell (by (try simp only [World.size_alloc]); (try dsimp only); omega)).trans ex1_0_10
  have ex1_1_11 : w11.cell? ⟨w4.heap.size, 1, none⟩ = some (.slice A4_1 (List.length x1.2.1) c4_1) := (hb11.cell (by (try simp only [World.size_alloc]); (try dsimp only); omega)).trans ex1_1_10
  have ex1_2_11 : w11.cell? ⟨w4.heap.size, 2, none⟩ = some (.slice A4_2 (List.length x1.2.2.1) c4_2) := (hb11.cell (by (try simp only [World.size_alloc]); (try dsimp only); omega)).trans ex1_2_10
  have ex1_3_11 : w11.cell? ⟨w4.heap.size, 3, none⟩ = some (.int .i64 x1.2.2.2.1) := (hb11.cell (by (try simp only [World.size_alloc]); (try dsimp only); omega)).trans ex1_3_10
  have ex1_4_11 : w11.cell? ⟨w4.heap.size, 4, none⟩ = some (.int .i64 x1.2.2.2.2) := (hb11.cell (by (try simp only [World.size_alloc]); (try dsimp only); omega)).trans ex1_4_10
  have zg0_11 : w5.heap.size < w11.heap.size := by omega
  have eg0_0_11 : w11.cell? ⟨w5.heap.size, 0, none⟩ = some (.slice A5_0 (List.length (f_SignData a0 x1).1) c5_0) := (hb11.cell (by (try simp only [World.size_alloc]); (try dsimp only); omega)).trans eg0_0_10
  have eg0_1_11 : w11.cell? ⟨w5.heap.size, 1, none⟩ = some (.slice A5_1 (List.length (f_SignData a0 x1).2.1) c5_1) := (hb11.cell (by (try simp only [World.size_alloc]); (try dsimp only); omega)).trans eg0_1_10
  have eg0_2_11 : w11.cell? ⟨w5.heap.size, 2, none⟩ = some (.slice A5_2 (List.length (f_SignData a0 x1).2.2.1) c5_2) := (hb11.cell (by (try simp only [World.size_alloc]); (try dsimp only); omega)).trans eg0_2_10
  have eg0_3_11 : w11.cell? ⟨w5.heap.size, 3, none⟩ = some (.int .i64 (f_SignData a0 x1).2.2.2.1) := (hb11.cell (by (try simp only [World.size_alloc]); (try dsimp only); omega)).trans eg0_3_10
  have eg0_4_11 : w11.cell? ⟨w5.heap.size, 4, none⟩ = some (.int .i64 (f_SignData a0 x1).2.2.2.2) := (hb11.cell (by (try simp only [World.size_alloc]); (try dsimp only); omega)).trans eg0_4_10
  clear ea1_0_10 ea1_1_10 ea1_2_10 ea1_3_10 ea1_4_10 ew0_0_10 ew0_1_10 ew0_2_10 ew0_3_10 ew0_4_10 ex1_0_10 ex1_1_10 ex1_2_10 ex1_3_10 ex1_4_10 eg0_0_10 eg0_1_10 eg0_2_10 eg0_3_10 eg0_4_10
  go_wp2_with fail
  refine (C_laws_toData _ _ x1 (Ty.rd_below (by repeat' (first | (with_reducible exact Below.refl _ _) | (with_reducible assumption) | (with_reducible refine bel_set ?_ (by (try dsimp only); omega) _) | (with_reducible refine bel_alloc ?_ _) | (with_reducible refine bel_drewN ?_ _) | (with_reducible refine bel_drew ?_))) h1) s1).mono ?_
  rintro e w12 ⟨cs12_, fp12, rfl, how12, hfr12, hb12⟩
  obtain ⟨A12_0, c12_0, A12_1, c12_1, A12_2, c12_2, rfl⟩ := ow_Data how12
  have st12 : Below w11.heap.size w11 w12 := bel_trans (by repeat' (first | (with_reducible exact Below.refl _ _) | (with_reducible assumption) | (with_reducible refine bel_set ?_ (by (try dsimp only); omega) _) | (with_reducible refine bel_alloc ?_ _) | (with_reducible refine bel_drewN ?_ _) | (with_reducible refine bel_drew ?_))) hb12
  have zz12 : w11.heap.size + 0 ≤ w12.heap.size := by have := hb12.size; (try simp only [World.size_alloc] at this); omega
  have vw_12 : Below w.heap.size w w12 := bel_trans vw_11 st12
  have vW0_12 : Below w10.heap.size w10 w12 := bel_trans vW0_11 st12
  have vM0_12 : Below w10.heap.size w10 w12 := bel_trans vM0_11 st12
  have za1_12 : w.heap.size < w12.heap.size := by omega
  have ea1_0_12 : w12.cell? ⟨w.heap.size, 0, none⟩ = some (.slice A10 (List.length x1.1) c10) := (hb12.cell (by (try simp only [World.size_alloc]); (try dsimp only); omega)).trans ea1_0_11
  have ea1_1_12 : w12.cell? ⟨w.heap.size, 1, none⟩ = some (.slice A11 (List.length x1.2.1) c11) := (hb12.cell (by (try simp only [World.size_alloc]); (try dsimp only); omega)).trans ea1_1_11
  have ea1_2_12 : w12.cell? ⟨w.heap.size, 2, none⟩ = some (.slice A12 (List.length x1.2.2.1) c12) := (hb12.cell (by (try simp only [World.size_alloc]); (try dsimp only); omega)).trans ea1_2_11
  have ea1_3_12 : w12.cell? ⟨w.heap.size, 3, none⟩ = some (.int .i64 x1.2.2.2.1) := (hb12.cell (by (try simp only [World.size_alloc]); (try dsimp only); omega)).trans ea1_3_11
  have ea1_4_12 : w12.cell? ⟨w.heap.size, 4, none⟩ = some (.int .i64 x1.2.2.2.2) := (hb12.cell (by (try simp only [World.size_alloc]); (try dsimp only); omega)).trans ea1_4_11
  have zw0_12 : w3.heap.size < w12.heap.size := by omega
  have ew0_0_12 : w12.cell? ⟨w3.heap.size, 0, none⟩ = some (.slice A3_0 (List.length (f_SignData a0 x1).1) c3_0) := (hb12.cell (by (try simp only [World.size_alloc]); (try dsimp only); omega)).trans ew0_0_11
  have ew0_1_12 : w12.cell? ⟨w3.heap.size, 1, none⟩ = some (.slice A3_1 (List.length (f_SignData a0 x1).2.1) c3_1) := (hb12.cell (by (try simp only [World.size_alloc]); (try dsimp only); omega)).trans ew0_1_11
  have ew0_2_12 : w12.cell? ⟨w3.heap.size, 2, none⟩ = some (.slice A3_2 (List.length (f_SignData a0 x1).2.2.1) c3_2) := (hb12.cell (by (try simp only [World.size_alloc]); (try dsimp only); omega)).trans ew0_2_11
  have ew0_3_12 : w12.cell? ⟨w3.heap.size, 3, none⟩ = some (.int .i64 (f_SignData a0 x1).2.2.2.1) := (hb12.cell (by (try simp only [World.size_alloc]); (try dsimp only); omega)).trans ew0_3_11
  have ew0_4_12 : w12.cell? ⟨w3.heap.size, 4, none⟩ = some (.int .i64 (f_SignData a0 x1).2.2.2.2) := (hb12.cell (by (try simp only [World.size_alloc]); (try dsimp only); omega)).trans ew0_4_11
  have zx1_12 : w4.heap.size < w12.heap.size := by omega
  have ex1_0_12 : w12.cell? ⟨w4.heap.size, 0, none⟩ = some (.slice A4_0 (List.length x1.1) c4_0) := (hb12.cell (by (try simp only [World.size_alloc]); (try dsimp only); omega)).trans ex1_0_11
  have ex1_1_12 : w12.cell? ⟨w4.heap.size, 1, none⟩ = some (.slice A4_1 (List.length x1.2.1) c4_1) := (hb12.cell (by (try simp only [World.size_alloc]); (try dsimp only); omega)).trans ex1_1_11
  have ex1_2_12 : w12.cell? ⟨w4.heap.size, 2, none⟩ = some (.slice A4_2 (List.length x1.2.2.1) c4_2) := (hb12.cell (by (try simp only [World.size_alloc]); (try dsimp only); omega)).trans ex1_2_11
  have ex1_3_12 : w12.cell? ⟨w4.heap.size, 3, none⟩ = some (.int .i64 x1.2.2.2.1) := (hb12.cell (by (try simp only [World.size_alloc]); (try dsimp only); omega)).trans ex1_3_11
  have ex1_4_12 : w12.cell? ⟨w4.heap.size, 4, none⟩ = some (.int .i64 x1.2.2.2.2) := (hb12.cell (by (try simp only [World.size_alloc]); (try dsimp only); omega)).trans ex1_4_11
  have zg0_12 : w5.heap.size < w12.heap.size := by omega
  have eg0_0_12 : w12.cell? ⟨w5.heap.size, 0, none⟩ = some (.slice A5_0 (List.length (f_SignData a0 x1).1) c5_0) := (hb12.cell (by (try simp only [World.size_alloc]); (try dsimp only); omega)).trans eg0_0_11
  have eg0_1_12 : w12.cell? ⟨w5.heap.size, 1, none⟩ = some (.slice A5_1 (List.length (f_SignData a0 x1).2.1) c5_1) := (hb12.cell (by (try simp only [World.size_alloc]); (try dsimp only); omega)).trans eg0_1_11
  have eg0_2_12 : w12.cell? ⟨w5.heap.size, 2, none⟩ = some (.slice A5_2 (List.length (f_SignData a0 x1).2.2.1) c5_2) := (hb12.cell (by (try simp only [World.size_alloc]); (try dsimp only); omega)).trans eg0_2_11
  have eg0_3_12 : w12.cell? ⟨w5.heap.size, 3, none⟩ = some (.int .i64 (f_SignData a0 x1).2.2.2.1) := (hb12.cell (by (try simp only [World.size_alloc]); (try dsimp only); omega)).trans eg0_3_11
  have eg0_4_12 : w12.cell? ⟨w5.heap.size, 4, none⟩ = some (.int .i64 (f_SignData a0 x1).2.2.2.2) := (hb12.cell (by (try simp only [World.size_alloc]); (try dsimp only); omega)).trans eg0_4_11
  clear ea1_0_11 ea1_1_11 ea1_2_11 ea1_3_11 ea1_4_11 ew0_0_11 ew0_1_11 ew0_2_11 ew0_3_11 ew0_4_11 ex1_0_11 ex1_1_11 ex1_2_11 ex1_3_11 ex1_4_11 eg0_0_11 eg0_1_11 eg0_2_11 eg0_3_11 eg0_4_11
  have vtr1_12 : Below w12.heap.size w12 w12 := Below.refl _ _
  go_wp2_with fail
  refine (C_impl_SignData _ a0 _ x1 (Ty.ow_rd (Ty.ow_bel (by repeat' (first | (with_reducible exact Below.refl _ _) | (with_reducible assumption) | (with_reducible refine bel_set ?_ (by (try dsimp only); omega) _) | (with_reducible refine bel_alloc ?_ _) | (with_reducible refine bel_drewN ?_ _) | (with_reducible refine bel_drew ?_))) how12)) i0 s1).mono ?_
  rintro e w13 ⟨cs13_, fp13, rfl, how13, hfr13, hb13⟩
  have st13 : Below w12.heap.size w12 w13 := bel_trans (by repeat' (first | (with_reducible exact Below.refl _ _) | (with_reducible assumption) | (with_reducible refine bel_set ?_ (by (try dsimp only); omega) _) | (with_reducible refine bel_alloc ?_ _) | (with_reducible refine bel_drewN ?_ _) | (with_reducible refine bel_drew ?_))) hb13
  have zz13 : w12.heap.size + 0 ≤ w13.heap.size := by have := hb13.size; (try simp only [World.size_alloc] at this); omega
  have vw_13 : Below w.heap.size w w13 := bel_trans vw_12 st13
  have vW0_13 : Below w10.heap.size w10 w13 := bel_trans vW0_12 st13
  have vM0_13 : Below w10.heap.size w10 w13 := bel_trans vM0_12 st13
  have za1_13 : w.heap.size < w13.heap.size := by omega
  have ea1_0_13 : w13.cell? ⟨w.heap.size, 0, none⟩ = some (.slice A10 (List.length x1.1) c10) := (hb13.cell (by (try simp only [World.size_alloc]); (try dsimp only); omega)).trans ea1_0_12
  have ea1_1_13 : w13.cell? ⟨w.heap.size, 1, none⟩ = some (.slice A11 (List.length x1.2.1) c11) := (hb13.cell (by (try simp only [World.size_alloc]); (try dsimp only); omega)).trans ea1_1_12
  have ea1_2_13 : w13.cell? ⟨w.heap.size, 2, none⟩ = some (.slice A12 (List.length x1.2.2.1) c12) := (hb13.cell (by (try simp only [World.size_alloc]); (try dsimp only); omega)).trans ea1_2_12
  have ea1_3_13 : w13.cell? ⟨w.heap.size, 3, none⟩ = some (.int .i64 x1.2.2.2.1) := (hb13.cell (by (try simp only [World.size_alloc]); (try dsimp only); omega)).trans ea1_3_12
  have ea1_4_13 : w13.cell? ⟨w.heap.size, 4, none⟩ = some (.int .i64 x1.2.2.2.2) := (hb13.cell (by (try simp only [World.size_alloc]); (try dsimp only); omega)).trans ea1_4_12
  have zw0_13 : w3.heap.size < w13.heap.size := by omega
  have ew0_0_13 : w13.cell? ⟨w3.heap.size, 0, none⟩ = some (.slice A3_0 (List.length (f_SignData a0 x1).1) c3_0) := (hb13.cell (by (try simp only [World.size_alloc]); (try dsimp only); omega)).trans ew0_0_12
  have ew0_1_13 : w13.cell? ⟨w3.heap.size, 1, none⟩ = some (.slice A3_1 (List.length (f_SignData a0 x1).2.1) c3_1) := (hb13.cell (by (try simp only [World.size_alloc]); (try dsimp only); omega)).trans ew0_1_12
  have ew0_2_13 : w13.cell? ⟨w3.heap.size, 2, none⟩ = some (.slice A3_2 (List.length (f_SignData a0 x1).2.2.1) c3_2) := (hb13.cell (by (try simp only [World.size_alloc]); (try dsimp only); omega)).trans ew0_2_12
  have ew0_3_13 : w13.cell? ⟨w3.heap.size, 3, none⟩ = some (.int .i64 (f_SignData a0 x1).2.2.2.1) := (hb13.cell (by (try simp only [World.size_alloc]); (try dsimp only); omega)).trans ew0_3_12
  have ew0_4_13 : w13.cell? ⟨w3.heap.size, 4, none⟩ = some (.int .i64 (f_SignData a0 x1).2.2.2.2) := (hb13.cell (by (try simp only [World.size_alloc]); (try dsimp only); omega)).trans ew0_4_12
  have zx1_13 : w4.heap.size < w13.heap.size := by omega
  have ex1_0_13 : w13.cell? ⟨w4.heap.size, 0, none⟩ = some (.slice A4_0 (List.length x1.1) c4_0) := (hb13.cell (by (try simp only [World.size_alloc]); (try dsimp only); omega)).trans ex1_0_12
  have ex1_1_13 : w13.cell? ⟨w4.heap.size, 1, none⟩ = some (.slice A4_1 (List.length x1.2.1) c4_1) := (hb13.cell (by (try simp only [World.size_alloc]); (try dsimp only); omega)).trans ex1_1_12
  have ex1_2_13 : w13.cell? ⟨w4.heap.size, 2, none⟩ = some (.slice A4_2 (List.length x1.2.2.1) c4_2) := (hb13.cell (by (try simp only [World.size_alloc]); (try dsimp only); omega)).trans ex1_2_12
  have ex1_3_13 : w13.cell? ⟨w4.heap.size, 3, none⟩ = some (.int .i64 x1.2.2.2.1) := (hb13.cell (by (try simp only [World.size_alloc]); (try dsimp only); omega)).trans ex1_3_12
  have ex1_4_13 : w13.cell? ⟨w4.heap.size, 4, none⟩ = some (.int .i64 x1.2.2.2.2) := (hb13.cell (by (try simp only [World.size_alloc]); (try dsimp only); omega)).trans ex1_4_12
  have zg0_13 : w5.heap.size < w13.heap.size := by omega
  have eg0_0_13 : w13.cell? ⟨w5.heap.size, 0, none⟩ = some (.slice A5_0 (List.length (f_SignData a0 x1).1) c5_0) := (hb13.cell (by (try simp only [World.size_alloc]); (try dsimp only); omega)).trans eg0_0_12
  have eg0_1_13 : w13.cell? ⟨w5.heap.size, 1, none⟩ = some (.slice A5_1 (List.length (f_SignData a0 x1).2.1) c5_1) := (hb13.cell (by (try simp only [World.size_alloc]); (try dsimp only); omega)).trans eg0_1_12
  have eg0_2_13 : w13.cell? ⟨w5.heap.size, 2, none⟩ = some (.slice A5_2 (List.length (f_SignData a0 x1).2.2.1) c5_2) := (hb13.cell (by (try simp only [World.size_alloc]); (try dsimp only); omega)).trans eg0_2_12
  have eg0_3_13 : w13.cell? ⟨w5.heap.size, 3, none⟩ = some (.int .i64 (f_SignData a0 x1).2.2.2.1) := (hb13.cell (by (try simp only [World.size_alloc]); (try dsimp only); omega)).trans eg0_3_12
  have eg0_4_13 : w13.cell? ⟨w5.heap.size, 4, none⟩ = some (.int .i64 (f_SignData a0 x1).2.2.2.2) := (hb13.cell (by (try simp only [World.size_alloc]); (try dsimp only); omega)).trans eg0_4_12
  clear ea1_0_12 ea1_1_12 ea1_2_12 ea1_3_12 ea1_4_12 ew0_0_12 ew0_1_12 ew0_2_12 ew0_3_12 ew0_4_12 ex1_0_12 ex1_1_12 ex1_2_12 ex1_3_12 ex1_4_12 eg0_0_12 eg0_1_12 eg0_2_12 eg0_3_12 eg0_4_12
  obtain ⟨A13_0, c13_0, A13_1, c13_1, A13_2, c13_2, rfl⟩ := ow_Data how13
  have frH0 : FrI (w12.heap.size + 0) w13.heap.size fp13 := hfr13.mono (by (try simp only [World.size_alloc]); omega) (Nat.le_refl _)
  have vH0_13 : Below w13.heap.size w13 w13 := Below.refl _ _
  go_wp2_with fail
  refine (C_laws_eqData _ _ _ (f_SignData a0 x1) (Ty.ow_rd (Ty.ow_bel (by repeat' (first | (with_reducible exact Below.refl _ _) | (with_reducible assumption) | (with_reducible refine bel_set ?_ (by (try dsimp only); omega) _) | (with_reducible refine bel_alloc ?_ _) | (with_reducible refine bel_drewN ?_ _) | (with_reducible refine bel_drew ?_))) how13)) (Ty.ow_rd (Ty.ow_bel (by repeat' (first | (with_reducible exact Below.refl _ _) | (with_reducible assumption) | (with_reducible refine bel_set ?_ (by (try dsimp only); omega) _) | (with_reducible refine bel_alloc ?_ _) | (with_reducible refine bel_drewN ?_ _) | (with_reducible refine bel_drew ?_))) howW0_10))).mono ?_
  rintro e w14 ⟨rfl, hb14⟩
  have st14 : Below w13.heap.size w13 w14 := bel_trans (by repeat' (first | (with_reducible exact Below.refl _ _) | (with_reducible assumption) | (with_reducible refine bel_set ?_ (by (try dsimp only); omega) _) | (with_reducible refine bel_alloc ?_ _) | (with_reducible refine bel_drewN ?_ _) | (with_reducible refine bel_drew ?_))) hb14
  have zz14 : w13.heap.size + 1 ≤ w14.heap.size := by have := hb14.size; (try simp only [World.size_alloc] at this); omega
  have vw_14 : Below w.heap.size w w14 := bel_trans vw_13 st14
  have vW0_14 : Below w10.heap.size w10 w14 := bel_trans vW0_13 st14
  have vM0_14 : Below w10.heap.size w10 w14 := bel_trans vM0_13 st14
  have vH0_14 : Below w13.heap.size w13 w14 := st14
  have za1_14 : w.heap.size < w14.heap.size := by omega
  have ea1_0_14 : w14.cell? ⟨w.heap.size, 0, none⟩ = some (.slice A10 (List.length x1.1) c10) := (hb14.cell (by (try simp only [World.size_alloc]); (try dsimp only); omega)).trans ((World.cell?_alloc_lt _ _ _ (by (try simp only [World.size_alloc]); (try dsimp only); omega)).trans ea1_0_13)
  have ea1_1_14 : w14.cell? ⟨w.heap.size, 1, none⟩ = some (.slice A11 (List.length x1.2.1) c11) := (hb14.cell (by (try simp only [World.size_alloc]); (try dsimp only); omega)).trans ((World.cell?_alloc_lt _ _ _ (by (try simp only [World.size_alloc]); (try dsimp only); omega)).trans ea1_1_13)
  have ea1_2_14 : w14.cell? ⟨w.heap.size, 2, none⟩ = some (.slice A12 (List.length x1.2.2.1) c12) := (hb14.cell (by (try simp only [World.size_alloc]); (try dsimp only); omega)).trans ((World.cell?_alloc_lt _ _ _ (by (try simp only [World.size_alloc]); (try dsimp only); omega)).trans ea1_2_13)
  have ea1_3_14 : w14.cell? ⟨w.heap.size, 3, none⟩ = some (.int .i64 x1.2.2.2.1) := (hb14.cell (by (try simp only [World.size_alloc]); (try dsimp only); omega)).trans ((World.cell?_alloc_lt _ _ _ (by (try simp only [World.size_alloc]); (try dsimp only); omega)).trans ea1_3_13)
  have ea1_4_14 : w14.cell? ⟨w.heap.size, 4, none⟩ = some (.int .i64 x1.2.2.2.2) := (hb14.cell (by (try simp only [World.size_alloc]); (try dsimp only); omega)).trans ((World.cell?_alloc_lt _ _ _ (by (try simp only [World.size_alloc]); (try dsimp only); omega)).trans ea1_4_13)
  have zw0_14 : w3.heap.size < w14.heap.size := by omega
  have ew0_0_14 : w14.cell? ⟨w3.heap.size, 0, none⟩ = some (.slice A3_0 (List.length (f_SignData a0 x1).1) c3_0) := (hb14.cell (by (try simp only [World.size_alloc]); (try dsimp only); omega)).trans ((World.cell?_alloc_lt _ _ _ (by (try simp only [World.size_alloc]); (try dsimp only); omega)).trans ew0_0_13)
  have ew0_1_14 : w14.cell? ⟨w3.heap.size, 1, none⟩ = some (.slice A3_1 (List.length (f_SignData a0 x1).2.1) c3_1) := (hb14.cell (by (try simp only [World.size_alloc]); (try dsimp only); omega)).trans ((World.cell?_alloc_lt _ _ _ (by (try simp only [World.size_alloc]); (try dsimp only); omega)).trans ew0_1_13)
  have ew0_2_14 : w14.cell? ⟨w3.heap.size, 2, none⟩ = some (.slice A3_2 (List.length (f_SignData a0 x1).2.2.1) c3_2) := (hb14.cell (by (try simp only [World.size_alloc]); (try dsimp only); omega)).trans ((World.cell?_alloc_lt _ _ _ (by (try simp only [World.size_alloc]); (try dsimp only); omega)).trans ew0_2_13)
  have ew0_3_14 : w14.cell? ⟨w3.heap.size, 3, none⟩ = some (.int .i64 (f_SignData a0 x1).2.2.2.1) := (hb14.cell (by (try simp only [World.size_alloc]); (try dsimp only); omega)).trans ((World.cell?_alloc_lt _ _ _ (by (try simp only [World.size_alloc]); (try dsimp only); omega)).trans ew0_3_13)
  have ew0_4_14 : w14.cell? ⟨w3.heap.size, 4, none⟩ = some (.int .i64 (f_SignData a0 x1).2.2.2.2) := (hb14.cell (by (try simp only [World.size_alloc]); (try dsimp only); omega)).trans ((World.cell?_alloc_lt _ _ _ (by (try simp only [World.size_alloc]); (try dsimp only); omega)).trans ew0_4_13)
  have zx1_14 : w4.heap.size < w14.heap.size := by omega
  have ex1_0_14 : w14.cell? ⟨w4.heap.size, 0, none⟩ = some (.slice A4_0 (List.length x1.1) c4_0) := (hb14.cell (by (try simp only [World.size_alloc]); (try dsimp only); omega)).trans ((World.cell?_alloc_lt _ _ _ (by (try simp only [World.size_alloc]); (try dsimp only); omega)).trans ex1_0_13)
  have ex1_1_14 : w14.cell? ⟨w4.heap.size, 1, none⟩ = some (.slice A4_1 (List.length x1.2.1) c4_1) := (hb14.cell (by (try simp only [World.size_alloc]); (try dsimp only); omega)).trans ((World.cell?_alloc_lt _ _ _ (by (try simp only [World.size_alloc]); (try dsimp only); omega)).trans ex1_1_13)
  have ex1_2_14 : w14.cell? ⟨w4.heap.size, 2, none⟩ = some (.slice A4_2 (List.length x1.2.2.1) c4_2) := (hb14.cell (by (try simp only [World.size_alloc]); (try dsimp only); omega)).trans ((World.cell?_alloc_lt _ _ _ (by (try simp only [World.size_alloc]); (try dsimp only); omega)).trans ex1_2_13)
  have ex1_3_14 : w14.cell? ⟨w4.heap.size, 3, none⟩ = some (.int .i64 x1.2.2.2.1) := (hb14.cell (by (try simp only [World.size_alloc]); (try dsimp only); omega)).trans ((World.cell?_alloc_lt _ _ _ (by (try simp only [World.size_alloc]); (try dsimp only); omega)).trans ex1_3_13)
  have ex1_4_14 : w14.cell? ⟨w4.heap.size, 4, none⟩ = some (.int .i64 x1.2.2.2.2) := (hb14.cell (by (try simp only [World.size_alloc]); (try dsimp only); omega)).trans ((World.cell?_alloc_lt _ _ _ (by (try simp only [World.size_alloc]); (try dsimp only); omega)).trans ex1_4_13)
  have zg0_14 : w5.heap.size < w14.heap.size := by omega
  have eg0_0_14 : w14.cell? ⟨w5.heap.size, 0, none⟩ = some (.slice A5_0 (List.length (f_SignData a0 x1).1) c5_0) := (hb14.cell (by (try simp only [World.size_alloc]); (try dsimp only); omega)).trans ((World.cell?_alloc_lt _ _ _ (by (try simp only [World.size_alloc]); (try dsimp only); omega)).trans eg0_0_13)
  have eg0_1_14 : w14.cell? ⟨w5.heap.size, 1, none⟩ = some (.slice A5_1 (List.length (f_SignData a0 x1).2.1) c5_1) := (hb14.cell (by (try simp only [World.size_alloc]); (try dsimp only); omega)).trans ((World.cell?_alloc_lt _ _ _ (by (try simp only [World.size_alloc]); (try dsimp only); omega)).trans eg0_1_13)
  have eg0_2_14 : w14.cell? ⟨w5.heap.size, 2, none⟩ = some (.slice A5_2 (List.length (f_SignData a0 x1).2.2.1) c5_2) := (hb14.cell (by (try simp only [World.size_alloc]); (try dsimp only); omega)).trans ((World.cell?_alloc_lt _ _ _ (by (try simp only [World.size_alloc]); (try dsimp only); omega)).trans eg0_2_13)
  have eg0_3_14 : w14.cell? ⟨w5.heap.size, 3, none⟩ = some (.int .i64 (f_SignData a0 x1).2.2.2.1) := (hb14.cell (by (try simp only [World.size_alloc]); (try dsimp only); omega)).trans ((World.cell?_alloc_lt _ _ _ (by (try simp only [World.size_alloc]); (try dsimp only); omega)).trans eg0_3_13)
  have eg0_4_14 : w14.cell? ⟨w5.heap.size, 4, none⟩ = some (.int .i64 (f_SignData a0 x1).2.2.2.2) := (hb14.cell (by (try simp only [World.size_alloc]); (try dsimp only); omega)).trans ((World.cell?_alloc_lt _ _ _ (by (try simp only [World.size_alloc]); (try dsimp only); omega)).trans eg0_4_13)
  have zh0_14 : w13.heap.size < w14.heap.size := by omega
  have eh0_0_14 : w14.cell? ⟨w13.heap.size, 0, none⟩ = some (.slice A13_0 (List.length (f_SignData a0 x1).1) c13_0) := (hb14.cell (by (try simp only [World.size_alloc]); (try dsimp only); omega)).trans ((cell_new w13 31 #[.slice A13_0 (List.length (f_SignData a0 x1).1) c13_0, .slice A13_1 (List.length (f_SignData a0 x1).2.1) c13_1, .slice A13_2 (List.length (f_SignData a0 x1).2.2.1) c13_2, .int .i64 (f_SignData a0 x1).2.2.2.1, .int .i64 (f_SignData a0 x1).2.2.2.2] 0 (by first | rfl | (simp only [World.size_alloc]))) : _ = some (Value.slice A13_0 (List.length (f_SignData a0 x1).1) c13_0))
  have eh0_1_14 : w14.cell? ⟨w13.heap.size, 1, none⟩ = some (.slice A13_1 (List.length (f_SignData a0 x1).2.1) c13_1) := (hb14.cell (by (try simp only [World.size_alloc]); (try dsimp only); omega)).trans ((cell_new w13 31 #[.slice A13_0 (List.length (f_SignData a0 x1).1) c13_0, .slice A13_1 (List.length (f_SignData a0 x1).2.1) c13_1, .slice A13_2 (List.length (f_SignData a0 x1).2.2.1) c13_2, .int .i64 (f_SignData a0 x1).2.2.2.1, .int .i64 (f_SignData a0 x1).2.2.2.2] 1 (by first | rfl | (simp only [World.size_alloc]))) : _ = some (Value.slice A13_1 (List.length (f_SignData a0 x1).2.1) c13_1))
  have eh0_2_14 : w14.cell? ⟨w13.heap.size, 2, none⟩ = some (.slice A13_2 (List.length (f_SignData a0 x1).2.2.1) c13_2) := (hb14.cell (by (try simp only [World.size_alloc]); (try dsimp only); omega)).trans ((cell_new w13 31 #[.slice A13_0 (List.length (f_SignData a0 x1).1) c13_0, .slice A13_1 (List.length (f_SignData a0 x1).2.1) c13_1, .slice A13_2 (List.length (f_SignData a0 x1).2.2.1) c13_2, .int .i64 (f_SignData a0 x1).2.2.2.1, .int .i64 (f_SignData a0 x1).2.2.2.2] 2 (by first | rfl | (simp only [World.size_alloc]))) : _ = some (Value.slice A13_2 (List.length (f_SignData a0 x1).2.2.1) c13_2))
  have eh0_3_14 : w14.cell? ⟨w13.heap.size, 3, none⟩ = some (.int .i64 (f_SignData a0 x1).2.2.2.1) := (hb14.cell (by (try simp only [World.size_alloc]); (try dsimp only); omega)).trans ((cell_new w13 31 #[.slice A13_0 (List.length (f_SignData a0 x1).1) c13_0, .slice A13_1 (List.length (f_SignData a0 x1).2.1) c13_1, .slice A13_2 (List.length (f_SignData a0 x1).2.2.1) c13_2, .int .i64 (f_SignData a0 x1).2.2.2.1, .int .i64 (f_SignData a0 x1).2.2.2.2] 3 (by first | rfl | (simp only [World.size_alloc]))) : _ = some (Value.int .i64 (f_SignData a0 x1).2.2.2.1))
  have eh0_4_14 : w14.cell? ⟨w13.heap.size, 4, none⟩ = some (.int .i64 (f_SignData a0 x1).2.2.2.2) := (hb14.cell (by (try simp only [World.size_alloc]); (try dsimp only); omega)).trans ((cell_new w13 31 #[.slice A13_0 (List.length (f_SignData a0 x1).1) c13_0, .slice A13_1 (List.length (f_SignData a0 x1).2.1) c13_1, .slice A13_2 (List.length (f_SignData a0 x1).2.2.1) c13_2, .int .i64 (f_SignData a0 x1).2.2.2.1, .int .i64 (f_SignData a0 x1).2.2.2.2] 4 (by first | rfl | (simp only [World.size_alloc]))) : _ = some (Value.int .i64 (f_SignData a0 x1).2.2.2.2))
  clear ea1_0_13 ea1_1_13 ea1_2_13 ea1_3_13 ea1_4_13 ew0_0_13 ew0_1_13 ew0_2_13 ew0_3_13 ew0_4_13 ex1_0_13 ex1_1_13 ex1_2_13 ex1_3_13 ex1_4_13 eg0_0_13 eg0_1_13 eg0_2_13 eg0_3_13 eg0_4_13
  go_wp2_with fail
  refine (C_laws_heldData _ _ (f_SignData a0 x1) 1 (Ty.ow_rd (Ty.ow_bel (by repeat' (first | (with_reducible exact Below.refl _ _) | (with_reducible assumption) | (with_reducible refine bel_set ?_ (by (try dsimp only); omega) _) | (with_reducible refine bel_alloc ?_ _) | (with_reducible refine bel_drewN ?_ _) | (with_reducible refine bel_drew ?_))) hm10)) (by omega) (by omega)).mono ?_
  rintro e w15 ⟨rfl, hb15⟩
  have st15 : Below w14.heap.size w14 w15 := bel_trans (by repeat' (first | (with_reducible exact Below.refl _ _) | (with_reducible assumption) | (with_reducible refine bel_set ?_ (by (try dsimp only); omega) _) | (with_reducible refine bel_alloc ?_ _) | (with_reducible refine bel_drewN ?_ _) | (with_reducible refine bel_drew ?_))) hb15
  have zz15 : w14.heap.size + 0 ≤ w15.heap.size := by have := hb15.size; (try simp only [World.size_alloc] at this); omega
  have vw_15 : Below w.heap.size w w15 := bel_trans vw_14 st15
  have vW0_15 : Below w10.heap.size w10 w15 := bel_trans vW0_14 st15
  have vM0_15 : Below w10.heap.size w10 w15 := bel_trans vM0_14 st15
  have vH0_15 : Below w13.heap.size w13 w15 := bel_trans vH0_14 st15
  have za1_15 : w.heap.size < w15.heap.size := by omega
  have ea1_0_15 : w15.cell? ⟨w.heap.size, 0, none⟩ = some (.slice A10 (List.length x1.1) c10) := (hb15.cell (by (try simp only [World.size_alloc]); (try dsimp only); omega)).trans ea1_0_14
  have ea1_1_15 : w15.cell? ⟨w.heap.size, 1, none⟩ = some (.slice A11 (List.length x1.2.1) c11) := (hb15.cell (by (try simp only [World.size_alloc]); (try dsimp only); omega)).trans ea1_1_14
  have ea1_2_15 : w15.cell? ⟨w.heap.size, 2, none⟩ = some (.slice A12 (List.length x1.2.2.1) c12) := (hb15.cell (by (try simp only [World.size_alloc]); (try dsimp only); omega)).trans ea1_2_14
  have ea1_3_15 : w15.cell? ⟨w.heap.size, 3, none⟩ = some (.int .i64 x1.2.2.2.1) := (hb15.cell (by (try simp only [World.size_alloc]); (try dsimp only); omega)).trans ea1_3_14
  have ea1_4_15 : w15.cell? ⟨w.heap.size, 4, none⟩ = some (.int .i64 x1.2.2.2.2) := (hb15.cell (by (try simp only [World.size_alloc]); (try dsimp only); omega)).trans ea1_4_14
  have zw0_15 : w3.heap.size < w15.heap.size := by omega
  have ew0_0_15 : w15.cell? ⟨w3.heap.size, 0, none⟩ = some (.slice A3_0 (List.length (f_SignData a0 x1).1) c3_0) := (hb15.cell (by (try simp only [World.size_alloc]); (try dsimp only); omega)).trans ew0_0_14
  have ew0_1_15 : w15.cell? ⟨w3.heap.size, 1, none⟩ = some (.slice A3_1 (List.length (f_SignData a0 x1).2.1) c3_1) := (hb15.cell (by (try simp only [World.size_alloc]); (try dsimp only); omega)).trans ew0_1_14
  have ew0_2_15 : w15.cell? ⟨w3.heap.size, 2, none⟩ = some (.slice A3_2 (List.length (f_SignData a0 x1).2.2.1) c3_2) := (hb15.cell (by (try simp only [World.size_alloc]); (try dsimp only); omega)).trans ew0_2_14
  have ew0_3_15 : w15.cell? ⟨w3.heap.size, 3, none⟩ = some (.int .i64 (f_SignData a0 x1).2.2.2.1) := (hb15.cell (by (try simp only [World.size_alloc]); (try dsimp only); omega)).trans ew0_3_14
  have ew0_4_15 : w15.cell? ⟨w3.heap.size, 4, none⟩ = some (.int .i64 (f_SignData a0 x1).2.2.2.2) := (hb15.cell (by (try simp only [World.size_alloc]); (try dsimp only); omega)).trans ew0_4_14
  have zx1_15 : w4.heap.size < w15.heap.size := by omega
  have ex1_0_15 : w15.cell? ⟨w4.heap.size, 0, none⟩ = some (.slice A4_0 (List.length x1.1) c4_0) := (hb15.cell (by (try simp only [World.size_alloc]); (try dsimp only); omega)).trans ex1_0_14
  have ex1_1_15 : w15.cell? ⟨w4.heap.size, 1, none⟩ = some (.slice A4_1 (List.length x1.2.1) c4_1) := (hb15.cell (by (try simp only [World.size_alloc]); (try dsimp only); omega)).trans ex1_1_14
  have ex1_2_15 : w15.cell? ⟨w4.heap.size, 2, none⟩ = some (.slice A4_2 (List.length x1.2.2.1) c4_2) := (hb15.cell (by (try simp only [World.size_alloc]); (try dsimp only); omega)).trans ex1_2_14
  have ex1_3_15 : w15.cell? ⟨w4.heap.size, 3, none⟩ = some (.int .i64 x1.2.2.2.1) := (hb15.cell (by (try simp only [World.size_alloc]); (try dsimp only); omega)).trans ex1_3_14
  have ex1_4_15 : w15.cell? ⟨w4.heap.size, 4, none⟩ = some (.int .i64 x1.2.2.2.2) := (hb15.cell (by (try simp only [World.size_alloc]); (try dsimp only); omega)).trans ex1_4_14
  have zg0_15 : w5.heap.size < w15.heap.size := by omega
  have eg0_0_15 : w15.cell? ⟨w5.heap.size, 0, none⟩ = some (.slice A5_0 (List.length (f_SignData a0 x1).1) c5_0) := (hb15.cell (by (try simp only [World.size_alloc]); (try dsimp only); omega)).trans eg0_0_14
  have eg0_1_15 : w15.cell? ⟨w5.heap.size, 1, none⟩ = some (.slice A5_1 (List.length (f_SignData a0 x1).2.1) c5_1) := (hb15.cell (by (try simp only [World.size_alloc]); (try dsimp only); omega)).trans eg0_1_14
  have eg0_2_15 : w15.cell? ⟨w5.heap.size, 2, none⟩ = some (.slice A5_2 (List.length (f_SignData a0 x1).2.2.1) c5_2) := (hb15.cell (by (try simp only [World.size_alloc]); (try dsimp only); omega)).trans eg0_2_14
  have eg0_3_15 : w15.cell? ⟨w5.heap.size, 3, none⟩ = some (.int .i64 (f_SignData a0 x1).2.2.2.1) := (hb15.cell (by (try simp only [World.size_alloc]); (try dsimp only); omega)).trans eg0_3_14
  have eg0_4_15 : w15.cell? ⟨w5.heap.size, 4, none⟩ = some (.int .i64 (f_SignData a0 x1).2.2.2.2) := (hb15.cell (by (try simp only [World.size_alloc]); (try dsimp only); omega)).trans eg0_4_14
  have zh0_15 : w13.heap.size < w15.heap.size := by omega
  have eh0_0_15 : w15.cell? ⟨w13.heap.size, 0, none⟩ = some (.slice A13_0 (List.length (f_SignData a0 x1).1) c13_0) := (hb15.cell (by (try simp only [World.size_alloc]); (try dsimp only); omega)).trans eh0_0_14
  have eh0_1_15 : w15.cell? ⟨w13.heap.size, 1, none⟩ = some (.slice A13_1 (List.length (f_SignData a0 x1).2.1) c13_1) := (hb15.cell (by (try simp only [World.size_alloc]); (try dsimp only); omega)).trans eh0_1_14
  have eh0_2_15 : w15.cell? ⟨w13.heap.size, 2, none⟩ = some (.slice A13_2 (List.length (f_SignData a0 x1).2.2.1) c13_2) := (hb15.cell (by (try simp only [World.size_alloc]); (try dsimp only); omega)).trans eh0_2_14
  have eh0_3_15 : w15.cell? ⟨w13.heap.size, 3, none⟩ = some (.int .i64 (f_SignData a0 x1).2.2.2.1) := (hb15.cell (by (try simp only [World.size_alloc]); (try dsimp only); omega)).trans eh0_3_14
  have eh0_4_15 : w15.cell? ⟨w13.heap.size, 4, none⟩ = some (.int .i64 (f_SignData a0 x1).2.2.2.2) := (hb15.cell (by (try simp only [World.size_alloc]); (try dsimp only); omega)).trans eh0_4_14
  clear ea1_0_14 ea1_1_14 ea1_2_14 ea1_3_14 ea1_4_14 ew0_0_14 ew0_1_14 ew0_2_14 ew0_3_14 ew0_4_14 ex1_0_14 ex1_1_14 ex1_2_14 ex1_3_14 ex1_4_14 eg0_0_14 eg0_1_14 eg0_2_14 eg0_3_14 eg0_4_14 eh0_0_14 eh0_1_14 eh0_2_14 eh0_3_14 eh0_4_14
  go_wp2_with fail
  go_ret
  exact ⟨rfl, vw_15⟩
end Go.Proofs.Ytamodpeeocmneaa
