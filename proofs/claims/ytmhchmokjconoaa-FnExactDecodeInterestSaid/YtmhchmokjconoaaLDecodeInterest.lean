/- The law FnExactDecodeInterest, walked out of the contracts. Printed by a program. -/
import Derived.Test.YtmhchmokjconoaaDin
import Derived.Deep.RegionHeld3
namespace Go.Proofs.Ytmhchmokjconoaa
open Go.RowKit
set_option linter.unusedVariables false
set_option linter.unusedSimpArgs false

set_option maxRecDepth 100000 in
set_option maxHeartbeats 4000000 in
theorem L_DecodeInterest (w : World) (v0 : Value) (x0 : Ty.D (.sl .byte)) (h0 : Ty.rd w (.sl .byte) [v0] x0) :
    Calls Try.prog 12 #[v0] w (RetB w true) := by
  go_enter Try.func12, Try.ntmps12
  obtain ⟨A0, c0, rfl, hc0, hm0, hn0⟩ := Ty.rd_sl h0
  by_cases gl0 : List.length x0 ≤ 1048576
  rotate_left
  · go_wp2
    go_ret
    exact ⟨rfl, (by repeat' (first | (with_reducible exact Below.refl _ _) | (with_reducible assumption) | (with_reducible refine bel_set ?_ (by (try dsimp only); omega) _) | (with_reducible refine bel_alloc ?_ _) | (with_reducible refine bel_drewN ?_ _) | (with_reducible refine bel_drew ?_)))⟩
  have s0 : Ty.bulk (.sl .byte) x0 ≤ 1048576 := by rw [Ty.bulk_flat (fun _ => rfl)]; exact gl0
  go_wp2_with fail
  refine (C_laws_toByteS _ _ x0 (Ty.rd_below (by repeat' (first | (with_reducible exact Below.refl _ _) | (with_reducible assumption) | (with_reducible refine bel_set ?_ (by (try dsimp only); omega) _) | (with_reducible refine bel_alloc ?_ _) | (with_reducible refine bel_drewN ?_ _) | (with_reducible refine bel_drew ?_))) h0) s0).mono ?_
  rintro e w1 ⟨A1_, c1_, fp1, rfl, how1, hfr1, hb1⟩
  have st1 : Below w.heap.size w w1 := bel_trans (by repeat' (first | (with_reducible exact Below.refl _ _) | (with_reducible assumption) | (with_reducible refine bel_set ?_ (by (try dsimp only); omega) _) | (with_reducible refine bel_alloc ?_ _) | (with_reducible refine bel_drewN ?_ _) | (with_reducible refine bel_drew ?_))) hb1
  have zz1 : w.heap.size + 0 ≤ w1.heap.size := by have := hb1.size; (try simp only [World.size_alloc] at this); omega
  have vw_1 : Below w.heap.size w w1 := st1
  have vtp0_1 : Below w1.heap.size w1 w1 := Below.refl _ _
  go_wp2_with fail
  refine (C_spec_DecodeInterest _ _ x0 (Ty.ow_rd (Ty.ow_bel (by repeat' (first | (with_reducible exact Below.refl _ _) | (with_reducible assumption) | (with_reducible refine bel_set ?_ (by (try dsimp only); omega) _) | (with_reducible refine bel_alloc ?_ _) | (with_reducible refine bel_drewN ?_ _) | (with_reducible refine bel_drew ?_))) how1)) s0).mono ?_
  rintro e w2 ⟨cs2_, fp2, rfl, how2, hfr2, hb2⟩
  have st2 : Below w1.heap.size w1 w2 := bel_trans (by repeat' (first | (with_reducible exact Below.refl _ _) | (with_reducible assumption) | (with_reducible refine bel_set ?_ (by (try dsimp only); omega) _) | (with_reducible refine bel_alloc ?_ _) | (with_reducible refine bel_drewN ?_ _) | (with_reducible refine bel_drew ?_))) hb2
  have zz2 : w1.heap.size + 0 ≤ w2.heap.size := by have := hb2.size; (try simp only [World.size_alloc] at this); omega
  have vw_2 : Below w.heap.size w w2 := bel_trans vw_1 st2
  obtain ⟨A2_0, c2_0, rfl⟩ := ow_Interest how2
  have frW0 : FrI (w1.heap.size + 0) w2.heap.size fp2 := hfr2.mono (by (try simp only [World.size_alloc]); omega) (Nat.le_refl _)
  have vW0_2 : Below w2.heap.size w2 w2 := Below.refl _ _
  go_wp2_with fail
  refine (C_laws_toByteS _ _ x0 (Ty.rd_below (by repeat' (first | (with_reducible exact Below.refl _ _) | (with_reducible assumption) | (with_reducible refine bel_set ?_ (by (try dsimp only); omega) _) | (with_reducible refine bel_alloc ?_ _) | (with_reducible refine bel_drewN ?_ _) | (with_reducible refine bel_drew ?_))) h0) s0).mono ?_
  rintro e w3 ⟨A3_, c3_, fp3, rfl, how3, hfr3, hb3⟩
  have st3 : Below w2.heap.size w2 w3 := bel_trans (by repeat' (first | (with_reducible exact Below.refl _ _) | (with_reducible assumption) | (with_reducible refine bel_set ?_ (by (try dsimp only); omega) _) | (with_reducible refine bel_alloc ?_ _) | (with_reducible refine bel_drewN ?_ _) | (with_reducible refine bel_drew ?_))) hb3
  have zz3 : w2.heap.size + 1 ≤ w3.heap.size := by have := hb3.size; (try simp only [World.size_alloc] at this); omega
  have vw_3 : Below w.heap.size w w3 := bel_trans vw_2 st3
  have vW0_3 : Below w2.heap.size w2 w3 := st3
  have zw0_3 : w2.heap.size < w3.heap.size := by omega
  have ew0_0_3 : w3.cell? ⟨w2.heap.size, 0, none⟩ = some (.slice A2_0 (List.length (f0_DecodeInterest x0).1) c2_0) := (hb3.cell (by (try simp only [World.size_alloc]); (try dsimp only); omega)).trans ((cell_new w2 67 #[.slice A2_0 (List.length (f0_DecodeInterest x0).1) c2_0, .int .i64 (f0_DecodeInterest x0).2.1, .int .i64 (f0_DecodeInterest x0).2.2.1, .int .i64 (f0_DecodeInterest x0).2.2.2] 0 (by first | rfl | (simp only [World.size_alloc]))) : _ = some (Value.slice A2_0 (List.length (f0_DecodeInterest x0).1) c2_0))
  have ew0_1_3 : w3.cell? ⟨w2.heap.size, 1, none⟩ = some (.int .i64 (f0_DecodeInterest x0).2.1) := (hb3.cell (by (try simp only [World.size_alloc]); (try dsimp only); omega)).trans ((cell_new w2 67 #[.slice A2_0 (List.length (f0_DecodeInterest x0).1) c2_0, .int .i64 (f0_DecodeInterest x0).2.1, .int .i64 (f0_DecodeInterest x0).2.2.1, .int .i64 (f0_DecodeInterest x0).2.2.2] 1 (by first | rfl | (simp only [World.size_alloc]))) : _ = some (Value.int .i64 (f0_DecodeInterest x0).2.1))
  have ew0_2_3 : w3.cell? ⟨w2.heap.size, 2, none⟩ = some (.int .i64 (f0_DecodeInterest x0).2.2.1) := (hb3.cell (by (try simp only [World.size_alloc]); (try dsimp only); omega)).trans ((cell_new w2 67 #[.slice A2_0 (List.length (f0_DecodeInterest x0).1) c2_0, .int .i64 (f0_DecodeInterest x0).2.1, .int .i64 (f0_DecodeInterest x0).2.2.1, .int .i64 (f0_DecodeInterest x0).2.2.2] 2 (by first | rfl | (simp only [World.size_alloc]))) : _ = some (Value.int .i64 (f0_DecodeInterest x0).2.2.1))
  have ew0_3_3 : w3.cell? ⟨w2.heap.size, 3, none⟩ = some (.int .i64 (f0_DecodeInterest x0).2.2.2) := (hb3.cell (by (try simp only [World.size_alloc]); (try dsimp only); omega)).trans ((cell_new w2 67 #[.slice A2_0 (List.length (f0_DecodeInterest x0).1) c2_0, .int .i64 (f0_DecodeInterest x0).2.1, .int .i64 (f0_DecodeInterest x0).2.2.1, .int .i64 (f0_DecodeInterest x0).2.2.2] 3 (by first | rfl | (simp only [World.size_alloc]))) : _ = some (Value.int .i64 (f0_DecodeInterest x0).2.2.2))
  have frX0 : FrI (w2.heap.size + 1) w3.heap.size fp3 := hfr3.mono (by (try simp only [World.size_alloc]); omega) (Nat.le_refl _)
  have vX0_3 : Below w3.heap.size w3 w3 := Below.refl _ _
  go_wp2_with fail
  refine (C_impl_DecodeInterest _ _ x0 (Ty.ow_rd (Ty.ow_bel (by repeat' (first | (with_reducible exact Below.refl _ _) | (with_reducible assumption) | (with_reducible refine bel_set ?_ (by (try dsimp only); omega) _) | (with_reducible refine bel_alloc ?_ _) | (with_reducible refine bel_drewN ?_ _) | (with_reducible refine bel_drew ?_))) how3)) s0).mono ?_
  rintro e w4 ⟨cs4_, fp4, rfl, how4, hfr4, hb4⟩
  have st4 : Below w3.heap.size w3 w4 := bel_trans (by repeat' (first | (with_reducible exact Below.refl _ _) | (with_reducible assumption) | (with_reducible refine bel_set ?_ (by (try dsimp only); omega) _) | (with_reducible refine bel_alloc ?_ _) | (with_reducible refine bel_drewN ?_ _) | (with_reducible refine bel_drew ?_))) hb4
  have zz4 : w3.heap.size + 0 ≤ w4.heap.size := by have := hb4.size; (try simp only [World.size_alloc] at this); omega
  have vw_4 : Below w.heap.size w w4 := bel_trans vw_3 st4
  have vW0_4 : Below w2.heap.size w2 w4 := bel_trans vW0_3 st4
  have vX0_4 : Below w3.heap.size w3 w4 := st4
  have zw0_4 : w2.heap.size < w4.heap.size := by omega
  have ew0_0_4 : w4.cell? ⟨w2.heap.size, 0, none⟩ = some (.slice A2_0 (List.length (f0_DecodeInterest x0).1) c2_0) := (hb4.cell (by (try simp only [World.size_alloc]); (try dsimp only); omega)).trans ew0_0_3
  have ew0_1_4 : w4.cell? ⟨w2.heap.size, 1, none⟩ = some (.int .i64 (f0_DecodeInterest x0).2.1) := (hb4.cell (by (try simp only [World.size_alloc]); (try dsimp only); omega)).trans ew0_1_3
  have ew0_2_4 : w4.cell? ⟨w2.heap.size, 2, none⟩ = some (.int .i64 (f0_DecodeInterest x0).2.2.1) := (hb4.cell (by (try simp only [World.size_alloc]); (try dsimp only); omega)).trans ew0_2_3
  have ew0_3_4 : w4.cell? ⟨w2.heap.size, 3, none⟩ = some (.int .i64 (f0_DecodeInterest x0).2.2.2) := (hb4.cell (by (try simp only [World.size_alloc]); (try dsimp only); omega)).trans ew0_3_3
  clear ew0_0_3 ew0_1_3 ew0_2_3 ew0_3_3
  obtain ⟨A4_0, c4_0, rfl⟩ := ow_Interest how4
  have frG0 : FrI (w3.heap.size + 0) w4.heap.size fp4 := hfr4.mono (by (try simp only [World.size_alloc]); omega) (Nat.le_refl _)
  have vG0_4 : Below w4.heap.size w4 w4 := Below.refl _ _
  have hq1 : ((f1_DecodeInterest x0) != (f1_DecodeInterest x0)) = false := by simp
  go_wp2_with fail
  refine (C_laws_eqInterest _ _ _ (f0_DecodeInterest x0) (Ty.ow_rd (Ty.ow_bel (by repeat' (first | (with_reducible exact Below.refl _ _) | (with_reducible assumption) | (with_reducible refine bel_set ?_ (by (try dsimp only); omega) _) | (with_reducible refine bel_alloc ?_ _) | (with_reducible refine bel_drewN ?_ _) | (with_reducible refine bel_drew ?_))) how4)) (Ty.ow_rd (Ty.ow_bel (by repeat' (first | (with_reducible exact Below.refl _ _) | (with_reducible assumption) | (with_reducible refine bel_set ?_ (by (try dsimp only); omega) _) | (with_reducible refine bel_alloc ?_ _) | (with_reducible refine bel_drewN ?_ _) | (with_reducible refine bel_drew ?_))) how2))).mono ?_
  rintro e w5 ⟨rfl, hb5⟩
  have st5 : Below w4.heap.size w4 w5 := bel_trans (by repeat' (first | (with_reducible exact Below.refl _ _) | (with_reducible assumption) | (with_reducible refine bel_set ?_ (by (try dsimp only); omega) _) | (with_reducible refine bel_alloc ?_ _) | (with_reducible refine bel_drewN ?_ _) | (with_reducible refine bel_drew ?_))) hb5
  have zz5 : w4.heap.size + 1 ≤ w5.heap.size := by have := hb5.size; (try simp only [World.size_alloc] at this); omega
  have vw_5 : Below w.heap.size w w5 := bel_trans vw_4 st5
  have vW0_5 : Below w2.heap.size w2 w5 := bel_trans vW0_4 st5
  have vX0_5 : Below w3.heap.size w3 w5 := bel_trans vX0_4 st5
  have vG0_5 : Below w4.heap.size w4 w5 := st5
  have zw0_5 : w2.heap.size < w5.heap.size := by omega
  have ew0_0_5 : w5.cell? ⟨w2.heap.size, 0, none⟩ = some (.slice A2_0 (List.length (f0_DecodeInterest x0).1) c2_0) := (hb5.cell (by (try simp only [World.size_alloc]); (try dsimp only); omega)).trans ((World.cell?_alloc_lt _ _ _ (by (try simp only [World.size_alloc]); (try dsimp only); omega)).trans ew0_0_4)
  have ew0_1_5 : w5.cell? ⟨w2.heap.size, 1, none⟩ = some (.int .i64 (f0_DecodeInterest x0).2.1) := (hb5.cell (by (try simp only [World.size_alloc]); (try dsimp only); omega)).trans ((World.cell?_alloc_lt _ _ _ (by (try simp only [World.size_alloc]); (try dsimp only); omega)).trans ew0_1_4)
  have ew0_2_5 : w5.cell? ⟨w2.heap.size, 2, none⟩ = some (.int .i64 (f0_DecodeInterest x0).2.2.1) := (hb5.cell (by (try simp only [World.size_alloc]); (try dsimp only); omega)).trans ((World.cell?_alloc_lt _ _ _ (by (try simp only [World.size_alloc]); (try dsimp only); omega)).trans ew0_2_4)
  have ew0_3_5 : w5.cell? ⟨w2.heap.size, 3, none⟩ = some (.int .i64 (f0_DecodeInterest x0).2.2.2) := (hb5.cell (by (try simp only [World.size_alloc]); (try dsimp only); omega)).trans ((World.cell?_alloc_lt _ _ _ (by (try simp only [World.size_alloc]); (try dsimp only); omega)).trans ew0_3_4)
  have zg0_5 : w4.heap.size < w5.heap.size := by omega
  have eg0_0_5 : w5.cell? ⟨w4.heap.size, 0, none⟩ = some (.slice A4_0 (List.length (f0_DecodeInterest x0).1) c4_0) := (hb5.cell (by (try simp only [World.size_alloc]); (try dsimp only); omega)).trans ((cell_new w4 67 #[.slice A4_0 (List.length (f0_DecodeInterest x0).1) c4_0, .int .i64 (f0_DecodeInterest x0).2.1, .int .i64 (f0_DecodeInterest x0).2.2.1, .int .i64 (f0_DecodeInterest x0).2.2.2] 0 (by first | rfl | (simp only [World.size_alloc]))) : _ = some (Value.slice A4_0 (List.length (f0_DecodeInterest x0).1) c4_0))
  have eg0_1_5 : w5.cell? ⟨w4.heap.size, 1, none⟩ = some (.int .i64 (f0_DecodeInterest x0).2.1) := (hb5.cell (by (try simp only [World.size_alloc]); (try dsimp only); omega)).trans ((cell_new w4 67 #[.slice A4_0 (List.length (f0_DecodeInterest x0).1) c4_0, .int .i64 (f0_DecodeInterest x0).2.1, .int .i64 (f0_DecodeInterest x0).2.2.1, .int .i64 (f0_DecodeInterest x0).2.2.2] 1 (by first | rfl | (simp only [World.size_alloc]))) : _ = some (Value.int .i64 (f0_DecodeInterest x0).2.1))
  have eg0_2_5 : w5.cell? ⟨w4.heap.size, 2, none⟩ = some (.int .i64 (f0_DecodeInterest x0).2.2.1) := (hb5.cell (by (try simp only [World.size_alloc]); (try dsimp only); omega)).trans ((cell_new w4 67 #[.slice A4_0 (List.length (f0_DecodeInterest x0).1) c4_0, .int .i64 (f0_DecodeInterest x0).2.1, .int .i64 (f0_DecodeInterest x0).2.2.1, .int .i64 (f0_DecodeInterest x0).2.2.2] 2 (by first | rfl | (simp only [World.size_alloc]))) : _ = some (Value.int .i64 (f0_DecodeInterest x0).2.2.1))
  have eg0_3_5 : w5.cell? ⟨w4.heap.size, 3, none⟩ = some (.int .i64 (f0_DecodeInterest x0).2.2.2) := (hb5.cell (by (try simp only [World.size_alloc]); (try dsimp only); omega)).trans ((cell_new w4 67 #[.slice A4_0 (List.length (f0_DecodeInterest x0).1) c4_0, .int .i64 (f0_DecodeInterest x0).2.1, .int .i64 (f0_DecodeInterest x0).2.2.1, .int .i64 (f0_DecodeInterest x0).2.2.2] 3 (by first | rfl | (simp only [World.size_alloc]))) : _ = some (Value.int .i64 (f0_DecodeInterest x0).2.2.2))
  clear ew0_0_4 ew0_1_4 ew0_2_4 ew0_3_4
  go_wp2_with fail
  refine (C_laws_toByteS _ _ x0 (Ty.rd_below (by repeat' (first | (with_reducible exact Below.refl _ _) | (with_reducible assumption) | (with_reducible refine bel_set ?_ (by (try dsimp only); omega) _) | (with_reducible refine bel_alloc ?_ _) | (with_reducible refine bel_drewN ?_ _) | (with_reducible refine bel_drew ?_))) h0) s0).mono ?_
  rintro e w6 ⟨A6_, c6_, fp6, rfl, how6, hfr6, hb6⟩
  have st6 : Below w5.heap.size w5 w6 := bel_trans (by repeat' (first | (with_reducible exact Below.refl _ _) | (with_reducible assumption) | (with_reducible refine bel_set ?_ (by (try dsimp only); omega) _) | (with_reducible refine bel_alloc ?_ _) | (with_reducible refine bel_drewN ?_ _) | (with_reducible refine bel_drew ?_))) hb6
  have zz6 : w5.heap.size + 0 ≤ w6.heap.size := by have := hb6.size; (try simp only [World.size_alloc] at this); omega
  have vw_6 : Below w.heap.size w w6 := bel_trans vw_5 st6
  have vW0_6 : Below w2.heap.size w2 w6 := bel_trans vW0_5 st6
  have vX0_6 : Below w3.heap.size w3 w6 := bel_trans vX0_5 st6
  have vG0_6 : Below w4.heap.size w4 w6 := bel_trans vG0_5 st6
  have zw0_6 : w2.heap.size < w6.heap.size := by omega
  have ew0_0_6 : w6.cell? ⟨w2.heap.size, 0, none⟩ = some (.slice A2_0 (List.length (f0_DecodeInterest x0).1) c2_0) := (hb6.cell (by (try simp only [World.size_alloc]); (try dsimp only); omega)).trans ew0_0_5
  have ew0_1_6 : w6.cell? ⟨w2.heap.size, 1, none⟩ = some (.int .i64 (f0_DecodeInterest x0).2.1) := (hb6.cell (by (try simp only [World.size_alloc]); (try dsimp only); omega)).trans ew0_1_5
  have ew0_2_6 : w6.cell? ⟨w2.heap.size, 2, none⟩ = some (.int .i64 (f0_DecodeInterest x0).2.2.1) := (hb6.cell (by (try simp only [World.size_alloc]); (try dsimp only); omega)).trans ew0_2_5
  have ew0_3_6 : w6.cell? ⟨w2.heap.size, 3, none⟩ = some (.int .i64 (f0_DecodeInterest x0).2.2.2) := (hb6.cell (by (try simp only [World.size_alloc]); (try dsimp only); omega)).trans ew0_3_5
  have zg0_6 : w4.heap.size < w6.heap.size := by omega
  have eg0_0_6 : w6.cell? ⟨w4.heap.size, 0, none⟩ = some (.slice A4_0 (List.length (f0_DecodeInterest x0).1) c4_0) := (hb6.cell (by (try simp only [World.size_alloc]); (try dsimp only); omega)).trans eg0_0_5
  have eg0_1_6 : w6.cell? ⟨w4.heap.size, 1, none⟩ = some (.int .i64 (f0_DecodeInterest x0).2.1) := (hb6.cell (by (try simp only [World.size_alloc]); (try dsimp only); omega)).trans eg0_1_5
  have eg0_2_6 : w6.cell? ⟨w4.heap.size, 2, none⟩ = some (.int .i64 (f0_DecodeInterest x0).2.2.1) := (hb6.cell (by (try simp only [World.size_alloc]); (try dsimp only); omega)).trans eg0_2_5
  have eg0_3_6 : w6.cell? ⟨w4.heap.size, 3, none⟩ = some (.int .i64 (f0_DecodeInterest x0).2.2.2) := (hb6.cell (by (try simp only [World.size_alloc]); (try dsimp only); omega)).trans eg0_3_5
  clear ew0_0_5 ew0_1_5 ew0_2_5 ew0_3_5 eg0_0_5 eg0_1_5 eg0_2_5 eg0_3_5
  go_wp2_with fail
  refine (C_laws_eqByteS _ _ _ x0 (Ty.ow_rd (Ty.ow_bel (by repeat' (first | (with_reducible exact Below.refl _ _) | (with_reducible assumption) | (with_reducible refine bel_set ?_ (by (try dsimp only); omega) _) | (with_reducible refine bel_alloc ?_ _) | (with_reducible refine bel_drewN ?_ _) | (with_reducible refine bel_drew ?_))) how3)) (Ty.ow_rd how6)).mono ?_
  rintro e w7 ⟨rfl, hb7⟩
  have st7 : Below w6.heap.size w6 w7 := bel_trans (by repeat' (first | (with_reducible exact Below.refl _ _) | (with_reducible assumption) | (with_reducible refine bel_set ?_ (by (try dsimp only); omega) _) | (with_reducible refine bel_alloc ?_ _) | (with_reducible refine bel_drewN ?_ _) | (with_reducible refine bel_drew ?_))) hb7
  have zz7 : w6.heap.size + 0 ≤ w7.heap.size := by have := hb7.size; (try simp only [World.size_alloc] at this); omega
  have vw_7 : Below w.heap.size w w7 := bel_trans vw_6 st7
  have vW0_7 : Below w2.heap.size w2 w7 := bel_trans vW0_6 st7
  have vX0_7 : Below w3.heap.size w3 w7 := bel_trans vX0_6 st7
  have vG0_7 : Below w4.heap.size w4 w7 := bel_trans vG0_6 st7
  have zw0_7 : w2.heap.size < w7.heap.size := by omega
  have ew0_0_7 : w7.cell? ⟨w2.heap.size, 0, none⟩ = some (.slice A2_0 (List.length (f0_DecodeInterest x0).1) c2_0) := (hb7.cell (by (try simp only [World.size_alloc]); (try dsimp only); omega)).trans ew0_0_6
  have ew0_1_7 : w7.cell? ⟨w2.heap.size, 1, none⟩ = some (.int .i64 (f0_DecodeInterest x0).2.1) := (hb7.cell (by (try simp only [World.size_alloc]); (try dsimp only); omega)).trans ew0_1_6
  have ew0_2_7 : w7.cell? ⟨w2.heap.size, 2, none⟩ = some (.int .i64 (f0_DecodeInterest x0).2.2.1) := (hb7.cell (by (try simp only [World.size_alloc]); (try dsimp only); omega)).trans ew0_2_6
  have ew0_3_7 : w7.cell? ⟨w2.heap.size, 3, none⟩ = some (.int .i64 (f0_DecodeInterest x0).2.2.2) := (hb7.cell (by (try simp only [World.size_alloc]); (try dsimp only); omega)).trans ew0_3_6
  have zg0_7 : w4.heap.size < w7.heap.size := by omega
  have eg0_0_7 : w7.cell? ⟨w4.heap.size, 0, none⟩ = some (.slice A4_0 (List.length (f0_DecodeInterest x0).1) c4_0) := (hb7.cell (by (try simp only [World.size_alloc]); (try dsimp only); omega)).trans eg0_0_6
  have eg0_1_7 : w7.cell? ⟨w4.heap.size, 1, none⟩ = some (.int .i64 (f0_DecodeInterest x0).2.1) := (hb7.cell (by (try simp only [World.size_alloc]); (try dsimp only); omega)).trans eg0_1_6
  have eg0_2_7 : w7.cell? ⟨w4.heap.size, 2, none⟩ = some (.int .i64 (f0_DecodeInterest x0).2.2.1) := (hb7.cell (by (try simp only [World.size_alloc]); (try dsimp only); omega)).trans eg0_2_6
  have eg0_3_7 : w7.cell? ⟨w4.heap.size, 3, none⟩ = some (.int .i64 (f0_DecodeInterest x0).2.2.2) := (hb7.cell (by (try simp only [World.size_alloc]); (try dsimp only); omega)).trans eg0_3_6
  clear ew0_0_6 ew0_1_6 ew0_2_6 ew0_3_6 eg0_0_6 eg0_1_6 eg0_2_6 eg0_3_6
  have cb0 : Ty.cnt (.sl .byte) x0 ≤ 100000000 := Nat.le_trans (Ty.cntv_le (.sl .byte) x0) (Nat.le_trans (Nat.mul_le_mul_left _ s0) (by decide))
  have cbG : Ty.cntv tInterest (f0_DecodeInterest x0) ≤ 100000000000 := N_DecodeInterest s0
  go_wp2_with fail
  refine (C_laws_markByteS _ _ x0 fp3 (1) (Ty.ow_bel (by repeat' (first | (with_reducible exact Below.refl _ _) | (with_reducible assumption) | (with_reducible refine bel_set ?_ (by (try dsimp only); omega) _) | (with_reducible refine bel_alloc ?_ _) | (with_reducible refine bel_drewN ?_ _) | (with_reducible refine bel_drew ?_))) how3) frX0.1 (by omega) (by omega)).mono ?_
  rintro e w8 ⟨rfl, hm8, hk8⟩
  have zz8 : w7.heap.size ≤ w8.heap.size := hk8.size
  have szl8 : w.heap.size ≤ w2.heap.size := vw_2.size
  have vw_8 : Below w.heap.size w w8 := vw_7.trans (hk8.below vw_7.size (fun y hy => by have := frX0.2 y hy; omega))
  have howW0_8 : Ty.ow w8 tInterest [.slice A2_0 (List.length (f0_DecodeInterest x0).1) c2_0, .int .i64 (f0_DecodeInterest x0).2.1, .int .i64 (f0_DecodeInterest x0).2.2.1, .int .i64 (f0_DecodeInterest x0).2.2.2] (f0_DecodeInterest x0) fp2 := Ty.ow_keep (fun y hy => (hk8.block y (Nat.lt_of_lt_of_le (Ty.ow_lt how2 y hy) vW0_7.size) (fun hy2 => by have := frW0.2 y hy; have := frX0.2 y hy2; omega)).trans (vW0_7.block y (Ty.ow_lt how2 y hy))) how2
  have vW0_8 : Below w8.heap.size w8 w8 := Below.refl _ _
  have howG0_8 : Ty.ow w8 tInterest [.slice A4_0 (List.length (f0_DecodeInterest x0).1) c4_0, .int .i64 (f0_DecodeInterest x0).2.1, .int .i64 (f0_DecodeInterest x0).2.2.1, .int .i64 (f0_DecodeInterest x0).2.2.2] (f0_DecodeInterest x0) fp4 := Ty.ow_keep (fun y hy => (hk8.block y (Nat.lt_of_lt_of_le (Ty.ow_lt how4 y hy) vG0_7.size) (fun hy2 => by have := frG0.2 y hy; have := frX0.2 y hy2; omega)).trans (vG0_7.block y (Ty.ow_lt how4 y hy))) how4
  have vG0_8 : Below w8.heap.size w8 w8 := Below.refl _ _
  have zw0_8 : w2.heap.size < w8.heap.size := by omega
  have hBw0_8 : w8.heap[w2.heap.size]? = w7.heap[w2.heap.size]? := hk8.block _ zw0_7 (fun hy => by have := frX0.2 _ hy; omega)
  have ew0_0_8 : w8.cell? ⟨w2.heap.size, 0, none⟩ = some (.slice A2_0 (List.length (f0_DecodeInterest x0).1) c2_0) := (cell_of_heap hBw0_8 0).trans ew0_0_7
  have ew0_1_8 : w8.cell? ⟨w2.heap.size, 1, none⟩ = some (.int .i64 (f0_DecodeInterest x0).2.1) := (cell_of_heap hBw0_8 1).trans ew0_1_7
  have ew0_2_8 : w8.cell? ⟨w2.heap.size, 2, none⟩ = some (.int .i64 (f0_DecodeInterest x0).2.2.1) := (cell_of_heap hBw0_8 2).trans ew0_2_7
  have ew0_3_8 : w8.cell? ⟨w2.heap.size, 3, none⟩ = some (.int .i64 (f0_DecodeInterest x0).2.2.2) := (cell_of_heap hBw0_8 3).trans ew0_3_7
  have zg0_8 : w4.heap.size < w8.heap.size := by omega
  have hBg0_8 : w8.heap[w4.heap.size]? = w7.heap[w4.heap.size]? := hk8.block _ zg0_7 (fun hy => by have := frX0.2 _ hy; omega)
  have eg0_0_8 : w8.cell? ⟨w4.heap.size, 0, none⟩ = some (.slice A4_0 (List.length (f0_DecodeInterest x0).1) c4_0) := (cell_of_heap hBg0_8 0).trans eg0_0_7
  have eg0_1_8 : w8.cell? ⟨w4.heap.size, 1, none⟩ = some (.int .i64 (f0_DecodeInterest x0).2.1) := (cell_of_heap hBg0_8 1).trans eg0_1_7
  have eg0_2_8 : w8.cell? ⟨w4.heap.size, 2, none⟩ = some (.int .i64 (f0_DecodeInterest x0).2.2.1) := (cell_of_heap hBg0_8 2).trans eg0_2_7
  have eg0_3_8 : w8.cell? ⟨w4.heap.size, 3, none⟩ = some (.int .i64 (f0_DecodeInterest x0).2.2.2) := (cell_of_heap hBg0_8 3).trans eg0_3_7
  clear ew0_0_7 ew0_1_7 ew0_2_7 ew0_3_7 eg0_0_7 eg0_1_7 eg0_2_7 eg0_3_7
  go_wp2_with fail
  refine (C_laws_eqInterest _ _ _ (f0_DecodeInterest x0) (Ty.ow_rd (Ty.ow_bel (by repeat' (first | (with_reducible exact Below.refl _ _) | (with_reducible assumption) | (with_reducible refine bel_set ?_ (by (try dsimp only); omega) _) | (with_reducible refine bel_alloc ?_ _) | (with_reducible refine bel_drewN ?_ _) | (with_reducible refine bel_drew ?_))) howG0_8)) (Ty.ow_rd (Ty.ow_bel (by repeat' (first | (with_reducible exact Below.refl _ _) | (with_reducible assumption) | (with_reducible refine bel_set ?_ (by (try dsimp only); omega) _) | (with_reducible refine bel_alloc ?_ _) | (with_reducible refine bel_drewN ?_ _) | (with_reducible refine bel_drew ?_))) howW0_8))).mono ?_
  rintro e w9 ⟨rfl, hb9⟩
  have st9 : Below w8.heap.size w8 w9 := bel_trans (by repeat' (first | (with_reducible exact Below.refl _ _) | (with_reducible assumption) | (with_reducible refine bel_set ?_ (by (try dsimp only); omega) _) | (with_reducible refine bel_alloc ?_ _) | (with_reducible refine bel_drewN ?_ _) | (with_reducible refine bel_drew ?_))) hb9
  have zz9 : w8.heap.size + 0 ≤ w9.heap.size := by have := hb9.size; (try simp only [World.size_alloc] at this); omega
  have vw_9 : Below w.heap.size w w9 := bel_trans vw_8 st9
  have vW0_9 : Below w8.heap.size w8 w9 := st9
  have vG0_9 : Below w8.heap.size w8 w9 := st9
  have zw0_9 : w2.heap.size < w9.heap.size := by omega
  have ew0_0_9 : w9.cell? ⟨w2.heap.size, 0, none⟩ = some (.slice A2_0 (List.length (f0_DecodeInterest x0).1) c2_0) := (hb9.cell (by (try simp only [World.size_alloc]); (try dsimp only); omega)).trans ew0_0_8
  have ew0_1_9 : w9.cell? ⟨w2.heap.size, 1, none⟩ = some (.int .i64 (f0_DecodeInterest x0).2.1) := (hb9.cell (by (try simp only [World.size_alloc]); (try dsimp only); omega)).trans ew0_1_8
  have ew0_2_9 : w9.cell? ⟨w2.heap.size, 2, none⟩ = some (.int .i64 (f0_DecodeInterest x0).2.2.1) := (hb9.cell (by (try simp only [World.size_alloc]); (try dsimp only); omega)).trans ew0_2_8
  have ew0_3_9 : w9.cell? ⟨w2.heap.size, 3, none⟩ = some (.int .i64 (f0_DecodeInterest x0).2.2.2) := (hb9.cell (by (try simp only [World.size_alloc]); (try dsimp only); omega)).trans ew0_3_8
  have zg0_9 : w4.heap.size < w9.heap.size := by omega
  have eg0_0_9 : w9.cell? ⟨w4.heap.size, 0, none⟩ = some (.slice A4_0 (List.length (f0_DecodeInterest x0).1) c4_0) := (hb9.cell (by (try simp only [World.size_alloc]); (try dsimp only); omega)).trans eg0_0_8
  have eg0_1_9 : w9.cell? ⟨w4.heap.size, 1, none⟩ = some (.int .i64 (f0_DecodeInterest x0).2.1) := (hb9.cell (by (try simp only [World.size_alloc]); (try dsimp only); omega)).trans eg0_1_8
  have eg0_2_9 : w9.cell? ⟨w4.heap.size, 2, none⟩ = some (.int .i64 (f0_DecodeInterest x0).2.2.1) := (hb9.cell (by (try simp only [World.size_alloc]); (try dsimp only); omega)).trans eg0_2_8
  have eg0_3_9 : w9.cell? ⟨w4.heap.size, 3, none⟩ = some (.int .i64 (f0_DecodeInterest x0).2.2.2) := (hb9.cell (by (try simp only [World.size_alloc]); (try dsimp only); omega)).trans eg0_3_8
  clear ew0_0_8 ew0_1_8 ew0_2_8 ew0_3_8 eg0_0_8 eg0_1_8 eg0_2_8 eg0_3_8
  go_wp2_with fail
  refine (C_laws_markInterest _ _ (f0_DecodeInterest x0) fp4 (1) (Ty.ow_bel (by repeat' (first | (with_reducible exact Below.refl _ _) | (with_reducible assumption) | (with_reducible refine bel_set ?_ (by (try dsimp only); omega) _) | (with_reducible refine bel_alloc ?_ _) | (with_reducible refine bel_drewN ?_ _) | (with_reducible refine bel_drew ?_))) howG0_8) frG0.1 (by omega) (by omega)).mono ?_
  rintro e w10 ⟨rfl, hm10, hk10⟩
  have zz10 : w9.heap.size ≤ w10.heap.size := hk10.size
  have szl10 : w.heap.size ≤ w3.heap.size := vw_3.size
  have vw_10 : Below w.heap.size w w10 := vw_9.trans (hk10.below vw_9.size (fun y hy => by have := frG0.2 y hy; omega))
  have howW0_10 : Ty.ow w10 tInterest [.slice A2_0 (List.length (f0_DecodeInterest x0).1) c2_0, .int .i64 (f0_DecodeInterest x0).2.1, .int .i64 (f0_DecodeInterest x0).2.2.1, .int .i64 (f0_DecodeInterest x0).2.2.2] (f0_DecodeInterest x0) fp2 := Ty.ow_keep (fun y hy => (hk10.block y (Nat.lt_of_lt_of_le (Ty.ow_lt howW0_8 y hy) vW0_9.size) (fun hy2 => by have := frW0.2 y hy; have := frG0.2 y hy2; omega)).trans (vW0_9.block y (Ty.ow_lt howW0_8 y hy))) howW0_8
  have vW0_10 : Below w10.heap.size w10 w10 := Below.refl _ _
  have zw0_10 : w2.heap.size < w10.heap.size := by omega
  have hBw0_10 : w10.heap[w2.heap.size]? = w9.heap[w2.heap.size]? := hk10.block _ zw0_9 (fun hy => by have := frG0.2 _ hy; omega)
  have ew0_0_10 : w10.cell? ⟨w2.heap.size, 0, none⟩ = some (.slice A2_0 (List.length (f0_DecodeInterest x0).1) c2_0) := (cell_of_heap hBw0_10 0).trans ew0_0_9
  have ew0_1_10 : w10.cell? ⟨w2.heap.size, 1, none⟩ = some (.int .i64 (f0_DecodeInterest x0).2.1) := (cell_of_heap hBw0_10 1).trans ew0_1_9
  have ew0_2_10 : w10.cell? ⟨w2.heap.size, 2, none⟩ = some (.int .i64 (f0_DecodeInterest x0).2.2.1) := (cell_of_heap hBw0_10 2).trans ew0_2_9
  have ew0_3_10 : w10.cell? ⟨w2.heap.size, 3, none⟩ = some (.int .i64 (f0_DecodeInterest x0).2.2.2) := (cell_of_heap hBw0_10 3).trans ew0_3_9
  have zg0_10 : w4.heap.size < w10.heap.size := by omega
  have hBg0_10 : w10.heap[w4.heap.size]? = w9.heap[w4.heap.size]? := hk10.block _ zg0_9 (fun hy => by have := frG0.2 _ hy; omega)
  have eg0_0_10 : w10.cell? ⟨w4.heap.size, 0, none⟩ = some (.slice A4_0 (List.length (f0_DecodeInterest x0).1) c4_0) := (cell_of_heap hBg0_10 0).trans eg0_0_9
  have eg0_1_10 : w10.cell? ⟨w4.heap.size, 1, none⟩ = some (.int .i64 (f0_DecodeInterest x0).2.1) := (cell_of_heap hBg0_10 1).trans eg0_1_9
  have eg0_2_10 : w10.cell? ⟨w4.heap.size, 2, none⟩ = some (.int .i64 (f0_DecodeInterest x0).2.2.1) := (cell_of_heap hBg0_10 2).trans eg0_2_9
  have eg0_3_10 : w10.cell? ⟨w4.heap.size, 3, none⟩ = some (.int .i64 (f0_DecodeInterest x0).2.2.2) := (cell_of_heap hBg0_10 3).trans eg0_3_9
  clear ew0_0_9 ew0_1_9 ew0_2_9 ew0_3_9 eg0_0_9 eg0_1_9 eg0_2_9 eg0_3_9
  have frM : FrI (w3.heap.size + 0) w4.heap.size fp4 := frG0
  have vM0_10 : Below w10.heap.size w10 w10 := Below.refl _ _
  have hqm : ((1 + ((Ty.cntv tInterest (f0_DecodeInterest x0) : Nat) : Int) : Int) != 1 + ((Ty.cntv tInterest (f0_DecodeInterest x0) : Nat) : Int)) = false := by simp
  go_wp2_with fail
  refine (C_laws_heldInterest _ _ (f0_DecodeInterest x0) 1 (Ty.ow_rd (Ty.ow_bel (by repeat' (first | (with_reducible exact Below.refl _ _) | (with_reducible assumption) | (with_reducible refine bel_set ?_ (by (try dsimp only); omega) _) | (with_reducible refine bel_alloc ?_ _) | (with_reducible refine bel_drewN ?_ _) | (with_reducible refine bel_drew ?_))) hm10)) (by omega) (by omega)).mono ?_
  rintro e w11 ⟨rfl, hb11⟩
  have st11 : Below w10.heap.size w10 w11 := bel_trans (by repeat' (first | (with_reducible exact Below.refl _ _) | (with_reducible assumption) | (with_reducible refine bel_set ?_ (by (try dsimp only); omega) _) | (with_reducible refine bel_alloc ?_ _) | (with_reducible refine bel_drewN ?_ _) | (with_reducible refine bel_drew ?_))) hb11
  have zz11 : w10.heap.size + 0 ≤ w11.heap.size := by have := hb11.size; (try simp only [World.size_alloc] at this); omega
  have vw_11 : Below w.heap.size w w11 := bel_trans vw_10 st11
  have vW0_11 : Below w10.heap.size w10 w11 := st11
  have vM0_11 : Below w10.heap.size w10 w11 := st11
  have zw0_11 : w2.heap.size < w11.heap.size := by omega
  have ew0_0_11 : w11.cell? ⟨w2.heap.size, 0, none⟩ = some (.slice A2_0 (List.length (f0_DecodeInterest x0).1) c2_0) := (hb11.cell (by (try simp only [World.size_alloc]); (try dsimp only); omega)).trans ew0_0_10
  have ew0_1_11 : w11.cell? ⟨w2.heap.size, 1, none⟩ = some (.int .i64 (f0_DecodeInterest x0).2.1) := (hb11.cell (by (try simp only [World.size_alloc]); (try dsimp only); omega)).trans ew0_1_10
  have ew0_2_11 : w11.cell? ⟨w2.heap.size, 2, none⟩ = some (.int .i64 (f0_DecodeInterest x0).2.2.1) := (hb11.cell (by (try simp only [World.size_alloc]); (try dsimp only); omega)).trans ew0_2_10
  have ew0_3_11 : w11.cell? ⟨w2.heap.size, 3, none⟩ = some (.int .i64 (f0_DecodeInterest x0).2.2.2) := (hb11.cell (by (try simp only [World.size_alloc]); (try dsimp only); omega)).trans ew0_3_10
  have zg0_11 : w4.heap.size < w11.heap.size := by omega
  have eg0_0_11 : w11.cell? ⟨w4.heap.size, 0, none⟩ = some (.slice A4_0 (List.length (f0_DecodeInterest x0).1) c4_0) := (hb11.cell (by (try simp only [World.size_alloc]); (try dsimp only); omega)).trans eg0_0_10
  have eg0_1_11 : w11.cell? ⟨w4.heap.size, 1, none⟩ = some (.int .i64 (f0_DecodeInterest x0).2.1) := (hb11.cell (by (try simp only [World.size_alloc]); (try dsimp only); omega)).trans eg0_1_10
  have eg0_2_11 : w11.cell? ⟨w4.heap.size, 2, none⟩ = some (.int .i64 (f0_DecodeInterest x0).2.2.1) := (hb11.cell (by (try simp only [World.size_alloc]); (try dsimp only); omega)).trans eg0_2_10
  have eg0_3_11 : w11.cell? ⟨w4.heap.size, 3, none⟩ = some (.int .i64 (f0_DecodeInterest x0).2.2.2) := (hb11.cell (by (try simp only [World.size_alloc]); (try dsimp only); omega)).trans eg0_3_10
  clear ew0_0_10 ew0_1_10 ew0_2_10 ew0_3_10 eg0_0_10 eg0_1_10 eg0_2_10 eg0_3_10
  go_wp2_with fail
  refine (C_laws_toByteS _ _ x0 (Ty.rd_below (by repeat' (first | (with_reducible exact Below.refl _ _) | (with_reducible assumption) | (with_reducible refine bel_set ?_ (by (try dsimp only); omega) _) | (with_reducible refine bel_alloc ?_ _) | (with_reducible refine bel_drewN ?_ _) | (with_reducible refine bel_drew ?_))) h0) s0).mono ?_
  rintro e w12 ⟨A12_, c12_, fp12, rfl, how12, hfr12, hb12⟩
  have st12 : Below w11.heap.size w11 w12 := bel_trans (by repeat' (first | (with_reducible exact Below.refl _ _) | (with_reducible assumption) | (with_reducible refine bel_set ?_ (by (try dsimp only); omega) _) | (with_reducible refine bel_alloc ?_ _) | (with_reducible refine bel_drewN ?_ _) | (with_reducible refine bel_drew ?_))) hb12
  have zz12 : w11.heap.size + 0 ≤ w12.heap.size := by have := hb12.size; (try simp only [World.size_alloc] at this); omega
  have vw_12 : Below w.heap.size w w12 := bel_trans vw_11 st12
  have vW0_12 : Below w10.heap.size w10 w12 := bel_trans vW0_11 st12
  have vM0_12 : Below w10.heap.size w10 w12 := bel_trans vM0_11 st12
  have zw0_12 : w2.heap.size < w12.heap.size := by omega
  have ew0_0_12 : w12.cell? ⟨w2.heap.size, 0, none⟩ = some (.slice A2_0 (List.length (f0_DecodeInterest x0).1) c2_0) := (hb12.cell (by (try simp only [World.size_alloc]); (try dsimp only); omega)).trans ew0_0_11
  have ew0_1_12 : w12.cell? ⟨w2.heap.size, 1, none⟩ = some (.int .i64 (f0_DecodeInterest x0).2.1) := (hb12.cell (by (try simp only [World.size_alloc]); (try dsimp only); omega)).trans ew0_1_11
  have ew0_2_12 : w12.cell? ⟨w2.heap.size, 2, none⟩ = some (.int .i64 (f0_DecodeInterest x0).2.2.1) := (hb12.cell (by (try simp only [World.size_alloc]); (try dsimp only); omega)).trans ew0_2_11
  have ew0_3_12 : w12.cell? ⟨w2.heap.size, 3, none⟩ = some (.int .i64 (f0_DecodeInterest x0).2.2.2) := (hb12.cell (by (try simp only [World.size_alloc]); (try dsimp only); omega)).trans ew0_3_11
  have zg0_12 : w4.heap.size < w12.heap.size := by omega
  have eg0_0_12 : w12.cell? ⟨w4.heap.size, 0, none⟩ = some (.slice A4_0 (List.length (f0_DecodeInterest x0).1) c4_0) := (hb12.cell (by (try simp only [World.size_alloc]); (try dsimp only); omega)).trans eg0_0_11
  have eg0_1_12 : w12.cell? ⟨w4.heap.size, 1, none⟩ = some (.int .i64 (f0_DecodeInterest x0).2.1) := (hb12.cell (by (try simp only [World.size_alloc]); (try dsimp only); omega)).trans eg0_1_11
  have eg0_2_12 : w12.cell? ⟨w4.heap.size, 2, none⟩ = some (.int .i64 (f0_DecodeInterest x0).2.2.1) := (hb12.cell (by (try simp only [World.size_alloc]); (try dsimp only); omega)).trans eg0_2_11
  have eg0_3_12 : w12.cell? ⟨w4.heap.size, 3, none⟩ = some (.int .i64 (f0_DecodeInterest x0).2.2.2) := (hb12.cell (by (try simp only [World.size_alloc]); (try dsimp only); omega)).trans eg0_3_11
  clear ew0_0_11 ew0_1_11 ew0_2_11 ew0_3_11 eg0_0_11 eg0_1_11 eg0_2_11 eg0_3_11
  have vtr0_12 : Below w12.heap.size w12 w12 := Below.refl _ _
  go_wp2_with fail
  refine (C_impl_DecodeInterest _ _ x0 (Ty.ow_rd (Ty.ow_bel (by repeat' (first | (with_reducible exact Below.refl _ _) | (with_reducible assumption) | (with_reducible refine bel_set ?_ (by (try dsimp only); omega) _) | (with_reducible refine bel_alloc ?_ _) | (with_reducible refine bel_drewN ?_ _) | (with_reducible refine bel_drew ?_))) how12)) s0).mono ?_
  rintro e w13 ⟨cs13_, fp13, rfl, how13, hfr13, hb13⟩
  have st13 : Below w12.heap.size w12 w13 := bel_trans (by repeat' (first | (with_reducible exact Below.refl _ _) | (with_reducible assumption) | (with_reducible refine bel_set ?_ (by (try dsimp only); omega) _) | (with_reducible refine bel_alloc ?_ _) | (with_reducible refine bel_drewN ?_ _) | (with_reducible refine bel_drew ?_))) hb13
  have zz13 : w12.heap.size + 0 ≤ w13.heap.size := by have := hb13.size; (try simp only [World.size_alloc] at this); omega
  have vw_13 : Below w.heap.size w w13 := bel_trans vw_12 st13
  have vW0_13 : Below w10.heap.size w10 w13 := bel_trans vW0_12 st13
  have vM0_13 : Below w10.heap.size w10 w13 := bel_trans vM0_12 st13
  have zw0_13 : w2.heap.size < w13.heap.size := by omega
  have ew0_0_13 : w13.cell? ⟨w2.heap.size, 0, none⟩ = some (.slice A2_0 (List.length (f0_DecodeInterest x0).1) c2_0) := (hb13.cell (by (try simp only [World.size_alloc]); (try dsimp only); omega)).trans ew0_0_12
  have ew0_1_13 : w13.cell? ⟨w2.heap.size, 1, none⟩ = some (.int .i64 (f0_DecodeInterest x0).2.1) := (hb13.cell (by (try simp only [World.size_alloc]); (try dsimp only); omega)).trans ew0_1_12
  have ew0_2_13 : w13.cell? ⟨w2.heap.size, 2, none⟩ = some (.int .i64 (f0_DecodeInterest x0).2.2.1) := (hb13.cell (by (try simp only [World.size_alloc]); (try dsimp only); omega)).trans ew0_2_12
  have ew0_3_13 : w13.cell? ⟨w2.heap.size, 3, none⟩ = some (.int .i64 (f0_DecodeInterest x0).2.2.2) := (hb13.cell (by (try simp only [World.size_alloc]); (try dsimp only); omega)).trans ew0_3_12
  have zg0_13 : w4.heap.size < w13.heap.size := by omega
  have eg0_0_13 : w13.cell? ⟨w4.heap.size, 0, none⟩ = some (.slice A4_0 (List.length (f0_DecodeInterest x0).1) c4_0) := (hb13.cell (by (try simp only [World.size_alloc]); (try dsimp only); omega)).trans eg0_0_12
  have eg0_1_13 : w13.cell? ⟨w4.heap.size, 1, none⟩ = some (.int .i64 (f0_DecodeInterest x0).2.1) := (hb13.cell (by (try simp only [World.size_alloc]); (try dsimp only); omega)).trans eg0_1_12
  have eg0_2_13 : w13.cell? ⟨w4.heap.size, 2, none⟩ = some (.int .i64 (f0_DecodeInterest x0).2.2.1) := (hb13.cell (by (try simp only [World.size_alloc]); (try dsimp only); omega)).trans eg0_2_12
  have eg0_3_13 : w13.cell? ⟨w4.heap.size, 3, none⟩ = some (.int .i64 (f0_DecodeInterest x0).2.2.2) := (hb13.cell (by (try simp only [World.size_alloc]); (try dsimp only); omega)).trans eg0_3_12
  clear ew0_0_12 ew0_1_12 ew0_2_12 ew0_3_12 eg0_0_12 eg0_1_12 eg0_2_12 eg0_3_12
  obtain ⟨A13_0, c13_0, rfl⟩ := ow_Interest how13
  have frH0 : FrI (w12.heap.size + 0) w13.heap.size fp13 := hfr13.mono (by (try simp only [World.size_alloc]); omega) (Nat.le_refl _)
  have vH0_13 : Below w13.heap.size w13 w13 := Below.refl _ _
  go_wp2_with fail
  refine (C_laws_eqInterest _ _ _ (f0_DecodeInterest x0) (Ty.ow_rd (Ty.ow_bel (by repeat' (first | (with_reducible exact Below.refl _ _) | (with_reducible assumption) | (with_reducible refine bel_set ?_ (by (try dsimp only); omega) _) | (with_reducible refine bel_alloc ?_ _) | (with_reducible refine bel_drewN ?_ _) | (with_reducible refine bel_drew ?_))) how13)) (Ty.ow_rd (Ty.ow_bel (by repeat' (first | (with_reducible exact Below.refl _ _) | (with_reducible assumption) | (with_reducible refine bel_set ?_ (by (try dsimp only); omega) _) | (with_reducible refine bel_alloc ?_ _) | (with_reducible refine bel_drewN ?_ _) | (with_reducible refine bel_drew ?_))) howW0_10))).mono ?_
  rintro e w14 ⟨rfl, hb14⟩
  have st14 : Below w13.heap.size w13 w14 := bel_trans (by repeat' (first | (with_reducible exact Below.refl _ _) | (with_reducible assumption) | (with_reducible refine bel_set ?_ (by (try dsimp only); omega) _) | (with_reducible refine bel_alloc ?_ _) | (with_reducible refine bel_drewN ?_ _) | (with_reducible refine bel_drew ?_))) hb14
  have zz14 : w13.heap.size + 1 ≤ w14.heap.size := by have := hb14.size; (try simp only [World.size_alloc] at this); omega
  have vw_14 : Below w.heap.size w w14 := bel_trans vw_13 st14
  have vW0_14 : Below w10.heap.size w10 w14 := bel_trans vW0_13 st14
  have vM0_14 : Below w10.heap.size w10 w14 := bel_trans vM0_13 st14
  have vH0_14 : Below w13.heap.size w13 w14 := st14
  have zw0_14 : w2.heap.size < w14.heap.size := by omega
  have ew0_0_14 : w14.cell? ⟨w2.heap.size, 0, none⟩ = some (.slice A2_0 (List.length (f0_DecodeInterest x0).1) c2_0) := (hb14.cell (by (try simp only [World.size_alloc]); (try dsimp only); omega)).trans ((World.cell?_alloc_lt _ _ _ (by (try simp only [World.size_alloc]); (try dsimp only); omega)).trans ew0_0_13)
  have ew0_1_14 : w14.cell? ⟨w2.heap.size, 1, none⟩ = some (.int .i64 (f0_DecodeInterest x0).2.1) := (hb14.cell (by (try simp only [World.size_alloc]); (try dsimp only); omega)).trans ((World.cell?_alloc_lt _ _ _ (by (try simp only [World.size_alloc]); (try dsimp only); omega)).trans ew0_1_13)
  have ew0_2_14 : w14.cell? ⟨w2.heap.size, 2, none⟩ = some (.int .i64 (f0_DecodeInterest x0).2.2.1) := (hb14.cell (by (try simp only [World.size_alloc]); (try dsimp only); omega)).trans ((World.cell?_alloc_lt _ _ _ (by (try simp only [World.size_alloc]); (try dsimp only); omega)).trans ew0_2_13)
  have ew0_3_14 : w14.cell? ⟨w2.heap.size, 3, none⟩ = some (.int .i64 (f0_DecodeInterest x0).2.2.2) := (hb14.cell (by (try simp only [World.size_alloc]); (try dsimp only); omega)).trans ((World.cell?_alloc_lt _ _ _ (by (try simp only [World.size_alloc]); (try dsimp only); omega)).trans ew0_3_13)
  have zg0_14 : w4.heap.size < w14.heap.size := by omega
  have eg0_0_14 : w14.cell? ⟨w4.heap.size, 0, none⟩ = some (.slice A4_0 (List.length (f0_DecodeInterest x0).1) c4_0) := (hb14.cell (by (try simp only [World.size_alloc]); (try dsimp only); omega)).trans ((World.cell?_alloc_lt _ _ _ (by (try simp only [World.size_alloc]); (try dsimp only); omega)).trans eg0_0_13)
  have eg0_1_14 : w14.cell? ⟨w4.heap.size, 1, none⟩ = some (.int .i64 (f0_DecodeInterest x0).2.1) := (hb14.cell (by (try simp only [World.size_alloc]); (try dsimp only); omega)).trans ((World.cell?_alloc_lt _ _ _ (by (try simp only [World.size_alloc]); (try dsimp only); omega)).trans eg0_1_13)
  have eg0_2_14 : w14.cell? ⟨w4.heap.size, 2, none⟩ = some (.int .i64 (f0_DecodeInterest x0).2.2.1) := (hb14.cell (by (try simp only [World.size_alloc]); (try dsimp only); omega)).trans ((World.cell?_alloc_lt _ _ _ (by (try simp only [World.size_alloc]); (try dsimp only); omega)).trans eg0_2_13)
  have eg0_3_14 : w14.cell? ⟨w4.heap.size, 3, none⟩ = some (.int .i64 (f0_DecodeInterest x0).2.2.2) := (hb14.cell (by (try simp only [World.size_alloc]); (try dsimp only); omega)).trans ((World.cell?_alloc_lt _ _ _ (by (try simp only [World.size_alloc]); (try dsimp only); omega)).trans eg0_3_13)
  have zh0_14 : w13.heap.size < w14.heap.size := by omega
  have eh0_0_14 : w14.cell? ⟨w13.heap.size, 0, none⟩ = some (.slice A13_0 (List.length (f0_DecodeInterest x0).1) c13_0) := (hb14.cell (by (try simp only [World.size_alloc]); (try dsimp only); omega)).trans ((cell_new w13 67 #[.slice A13_0 (List.length (f0_DecodeInterest x0).1) c13_0, .int .i64 (f0_DecodeInterest x0).2.1, .int .i64 (f0_DecodeInterest x0).2.2.1, .int .i64 (f0_DecodeInterest x0).2.2.2] 0 (by first | rfl | (simp only [World.size_alloc]))) : _ = some (Value.slice A13_0 (List.length (f0_DecodeInterest x0).1) c13_0))
  have eh0_1_14 : w14.cell? ⟨w13.heap.size, 1, none⟩ = some (.int .i64 (f0_DecodeInterest x0).2.1) := (hb14.cell (by (try simp only [World.size_alloc]); (try dsimp only); omega)).trans ((cell_new w13 67 #[.slice A13_0 (List.length (f0_DecodeInterest x0).1) c13_0, .int .i64 (f0_DecodeInterest x0).2.1, .int .i64 (f0_DecodeInterest x0).2.2.1, .int .i64 (f0_DecodeInterest x0).2.2.2] 1 (by first | rfl | (simp only [World.size_alloc]))) : _ = some (Value.int .i64 (f0_DecodeInterest x0).2.1))
  have eh0_2_14 : w14.cell? ⟨w13.heap.size, 2, none⟩ = some (.int .i64 (f0_DecodeInterest x0).2.2.1) := (hb14.cell (by (try simp only [World.size_alloc]); (try dsimp only); omega)).trans ((cell_new w13 67 #[.slice A13_0 (List.length (f0_DecodeInterest x0).1) c13_0, .int .i64 (f0_DecodeInterest x0).2.1, .int .i64 (f0_DecodeInterest x0).2.2.1, .int .i64 (f0_DecodeInterest x0).2.2.2] 2 (by first | rfl | (simp only [World.size_alloc]))) : _ = some (Value.int .i64 (f0_DecodeInterest x0).2.2.1))
  have eh0_3_14 : w14.cell? ⟨w13.heap.size, 3, none⟩ = some (.int .i64 (f0_DecodeInterest x0).2.2.2) := (hb14.cell (by (try simp only [World.size_alloc]); (try dsimp only); omega)).trans ((cell_new w13 67 #[.slice A13_0 (List.length (f0_DecodeInterest x0).1) c13_0, .int .i64 (f0_DecodeInterest x0).2.1, .int .i64 (f0_DecodeInterest x0).2.2.1, .int .i64 (f0_DecodeInterest x0).2.2.2] 3 (by first | rfl | (simp only [World.size_alloc]))) : _ = some (Value.int .i64 (f0_DecodeInterest x0).2.2.2))
  clear ew0_0_13 ew0_1_13 ew0_2_13 ew0_3_13 eg0_0_13 eg0_1_13 eg0_2_13 eg0_3_13
  go_wp2_with fail
  refine (C_laws_heldInterest _ _ (f0_DecodeInterest x0) 1 (Ty.ow_rd (Ty.ow_bel (by repeat' (first | (with_reducible exact Below.refl _ _) | (with_reducible assumption) | (with_reducible refine bel_set ?_ (by (try dsimp only); omega) _) | (with_reducible refine bel_alloc ?_ _) | (with_reducible refine bel_drewN ?_ _) | (with_reducible refine bel_drew ?_))) hm10)) (by omega) (by omega)).mono ?_
  rintro e w15 ⟨rfl, hb15⟩
  have st15 : Below w14.heap.size w14 w15 := bel_trans (by repeat' (first | (with_reducible exact Below.refl _ _) | (with_reducible assumption) | (with_reducible refine bel_set ?_ (by (try dsimp only); omega) _) | (with_reducible refine bel_alloc ?_ _) | (with_reducible refine bel_drewN ?_ _) | (with_reducible refine bel_drew ?_))) hb15
  have zz15 : w14.heap.size + 0 ≤ w15.heap.size := by have := hb15.size; (try simp only [World.size_alloc] at this); omega
  have vw_15 : Below w.heap.size w w15 := bel_trans vw_14 st15
  have vW0_15 : Below w10.heap.size w10 w15 := bel_trans vW0_14 st15
  have vM0_15 : Below w10.heap.size w10 w15 := bel_trans vM0_14 st15
  have vH0_15 : Below w13.heap.size w13 w15 := bel_trans vH0_14 st15
  have zw0_15 : w2.heap.size < w15.heap.size := by omega
  have ew0_0_15 : w15.cell? ⟨w2.heap.size, 0, none⟩ = some (.slice A2_0 (List.length (f0_DecodeInterest x0).1) c2_0) := (hb15.cell (by (try simp only [World.size_alloc]); (try dsimp only); omega)).trans ew0_0_14
  have ew0_1_15 : w15.cell? ⟨w2.heap.size, 1, none⟩ = some (.int .i64 (f0_DecodeInterest x0).2.1) := (hb15.cell (by (try simp only [World.size_alloc]); (try dsimp only); omega)).trans ew0_1_14
  have ew0_2_15 : w15.cell? ⟨w2.heap.size, 2, none⟩ = some (.int .i64 (f0_DecodeInterest x0).2.2.1) := (hb15.cell (by (try simp only [World.size_alloc]); (try dsimp only); omega)).trans ew0_2_14
  have ew0_3_15 : w15.cell? ⟨w2.heap.size, 3, none⟩ = some (.int .i64 (f0_DecodeInterest x0).2.2.2) := (hb15.cell (by (try simp only [World.size_alloc]); (try dsimp only); omega)).trans ew0_3_14
  have zg0_15 : w4.heap.size < w15.heap.size := by omega
  have eg0_0_15 : w15.cell? ⟨w4.heap.size, 0, none⟩ = some (.slice A4_0 (List.length (f0_DecodeInterest x0).1) c4_0) := (hb15.cell (by (try simp only [World.size_alloc]); (try dsimp only); omega)).trans eg0_0_14
  have eg0_1_15 : w15.cell? ⟨w4.heap.size, 1, none⟩ = some (.int .i64 (f0_DecodeInterest x0).2.1) := (hb15.cell (by (try simp only [World.size_alloc]); (try dsimp only); omega)).trans eg0_1_14
  have eg0_2_15 : w15.cell? ⟨w4.heap.size, 2, none⟩ = some (.int .i64 (f0_DecodeInterest x0).2.2.1) := (hb15.cell (by (try simp only [World.size_alloc]); (try dsimp only); omega)).trans eg0_2_14
  have eg0_3_15 : w15.cell? ⟨w4.heap.size, 3, none⟩ = some (.int .i64 (f0_DecodeInterest x0).2.2.2) := (hb15.cell (by (try simp only [World.size_alloc]); (try dsimp only); omega)).trans eg0_3_14
  have zh0_15 : w13.heap.size < w15.heap.size := by omega
  have eh0_0_15 : w15.cell? ⟨w13.heap.size, 0, none⟩ = some (.slice A13_0 (List.length (f0_DecodeInterest x0).1) c13_0) := (hb15.cell (by (try simp only [World.size_alloc]); (try dsimp only); omega)).trans eh0_0_14
  have eh0_1_15 : w15.cell? ⟨w13.heap.size, 1, none⟩ = some (.int .i64 (f0_DecodeInterest x0).2.1) := (hb15.cell (by (try simp only [World.size_alloc]); (try dsimp only); omega)).trans eh0_1_14
  have eh0_2_15 : w15.cell? ⟨w13.heap.size, 2, none⟩ = some (.int .i64 (f0_DecodeInterest x0).2.2.1) := (hb15.cell (by (try simp only [World.size_alloc]); (try dsimp only); omega)).trans eh0_2_14
  have eh0_3_15 : w15.cell? ⟨w13.heap.size, 3, none⟩ = some (.int .i64 (f0_DecodeInterest x0).2.2.2) := (hb15.cell (by (try simp only [World.size_alloc]); (try dsimp only); omega)).trans eh0_3_14
  clear ew0_0_14 ew0_1_14 ew0_2_14 ew0_3_14 eg0_0_14 eg0_1_14 eg0_2_14 eg0_3_14 eh0_0_14 eh0_1_14 eh0_2_14 eh0_3_14
  go_wp2_with fail
  go_ret
  exact ⟨rfl, vw_15⟩
end Go.Proofs.Ytmhchmokjconoaa
