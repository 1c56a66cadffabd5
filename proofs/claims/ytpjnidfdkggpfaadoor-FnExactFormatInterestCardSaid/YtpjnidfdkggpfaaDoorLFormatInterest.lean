/- The law FnExactFormatInterest, walked out of the contracts. Printed by a program. -/
import Derived.Test.YtpjnidfdkggpfaaDoorFti
import Derived.Deep.RegionHeld3
namespace Go.Proofs.YtpjnidfdkggpfaaDoor
open Go.RowKit
set_option linter.unusedVariables false
set_option linter.unusedSimpArgs false

set_option maxRecDepth 100000 in
set_option maxHeartbeats 4000000 in
theorem L_FormatInterest (w : World) (cs0 : List Value) (x0 : Ty.D tInterest) (h0 : Ty.rd w tInterest cs0 x0) (ht : TabI w) :
    Calls Tryd.prog 3 #[.agg cs0.toArray] w (RetB w true) := by
  obtain ⟨A00, c00, rfl, _, _, _, _⟩ := rd_Interest h0
  go_enter Tryd.func3, Tryd.ntmps3
  go_wp2_with fail
  refine (C_laws_szInterest _ _ x0 1048576 (Ty.rd_below (by repeat' (first | (with_reducible exact Below.refl _ _) | (with_reducible assumption) | (with_reducible refine bel_set ?_ (by (try dsimp only); omega) _) | (with_reducible refine bel_alloc ?_ _) | (with_reducible refine bel_drewN ?_ _) | (with_reducible refine bel_drew ?_))) h0) (by omega) (by omega)).mono ?_
  rintro e w1 ⟨r1, rfl, hr1, hb1⟩
  have st1 : Below w.heap.size w w1 := bel_trans (by repeat' (first | (with_reducible exact Below.refl _ _) | (with_reducible assumption) | (with_reducible refine bel_set ?_ (by (try dsimp only); omega) _) | (with_reducible refine bel_alloc ?_ _) | (with_reducible refine bel_drewN ?_ _) | (with_reducible refine bel_drew ?_))) hb1
  have zz1 : w.heap.size + 1 ≤ w1.heap.size := by have := hb1.size; (try simp only [World.size_alloc] at this); omega
  have vw_1 : Below w.heap.size w w1 := st1
  have za0_1 : w.heap.size < w1.heap.size := by omega
  have ea0_0_1 : w1.cell? ⟨w.heap.size, 0, none⟩ = some (.slice A00 (List.length x0.1) c00) := (hb1.cell (by (try simp only [World.size_alloc]); (try dsimp only); omega)).trans ((cell_new w 26 #[.slice A00 (List.length x0.1) c00, .int .i64 x0.2.1, .int .i64 x0.2.2.1, .int .i64 x0.2.2.2] 0 (by first | rfl | (simp only [World.size_alloc]))) : _ = some (Value.slice A00 (List.length x0.1) c00))
  have ea0_1_1 : w1.cell? ⟨w.heap.size, 1, none⟩ = some (.int .i64 x0.2.1) := (hb1.cell (by (try simp only [World.size_alloc]); (try dsimp only); omega)).trans ((cell_new w 26 #[.slice A00 (List.length x0.1) c00, .int .i64 x0.2.1, .int .i64 x0.2.2.1, .int .i64 x0.2.2.2] 1 (by first | rfl | (simp only [World.size_alloc]))) : _ = some (Value.int .i64 x0.2.1))
  have ea0_2_1 : w1.cell? ⟨w.heap.size, 2, none⟩ = some (.int .i64 x0.2.2.1) := (hb1.cell (by (try simp only [World.size_alloc]); (try dsimp only); omega)).trans ((cell_new w 26 #[.slice A00 (List.length x0.1) c00, .int .i64 x0.2.1, .int .i64 x0.2.2.1, .int .i64 x0.2.2.2] 2 (by first | rfl | (simp only [World.size_alloc]))) : _ = some (Value.int .i64 x0.2.2.1))
  have ea0_3_1 : w1.cell? ⟨w.heap.size, 3, none⟩ = some (.int .i64 x0.2.2.2) := (hb1.cell (by (try simp only [World.size_alloc]); (try dsimp only); omega)).trans ((cell_new w 26 #[.slice A00 (List.length x0.1) c00, .int .i64 x0.2.1, .int .i64 x0.2.2.1, .int .i64 x0.2.2.2] 3 (by first | rfl | (simp only [World.size_alloc]))) : _ = some (Value.int .i64 x0.2.2.2))
  rcases hr1 with rfl | ⟨p1, q1⟩
  · go_wp2
    go_ret
    exact ⟨rfl, vw_1⟩
  have s0 : Ty.bulk tInterest x0 ≤ 1048576 := by omega
  go_wp2_with fail
  refine (C_laws_toInterest _ _ x0 (Ty.rd_below (by repeat' (first | (with_reducible exact Below.refl _ _) | (with_reducible assumption) | (with_reducible refine bel_set ?_ (by (try dsimp only); omega) _) | (with_reducible refine bel_alloc ?_ _) | (with_reducible refine bel_drewN ?_ _) | (with_reducible refine bel_drew ?_))) h0) s0).mono ?_
  rintro e w2 ⟨cs2_, fp2, rfl, how2, hfr2, hb2⟩
  obtain ⟨A2_0, c2_0, rfl⟩ := ow_Interest how2
  have st2 : Below w1.heap.size w1 w2 := bel_trans (by repeat' (first | (with_reducible exact Below.refl _ _) | (with_reducible assumption) | (with_reducible refine bel_set ?_ (by (try dsimp only); omega) _) | (with_reducible refine bel_alloc ?_ _) | (with_reducible refine bel_drewN ?_ _) | (with_reducible refine bel_drew ?_))) hb2
  have zz2 : w1.heap.size + 0 ≤ w2.heap.size := by have := hb2.size; (try simp only [World.size_alloc] at this); omega
  have vw_2 : Below w.heap.size w w2 := bel_trans vw_1 st2
  have za0_2 : w.heap.size < w2.heap.size := by omega
  have ea0_0_2 : w2.cell? ⟨w.heap.size, 0, none⟩ = some (.slice A00 (List.length x0.1) c00) := (hb2.cell (by (try simp only [World.size_alloc]); (try dsimp only); omega)).trans ea0_0_1
  have ea0_1_2 : w2.cell? ⟨w.heap.size, 1, none⟩ = some (.int .i64 x0.2.1) := (hb2.cell (by (try simp only [World.size_alloc]); (try dsimp only); omega)).trans ea0_1_1
  have ea0_2_2 : w2.cell? ⟨w.heap.size, 2, none⟩ = some (.int .i64 x0.2.2.1) := (hb2.cell (by (try simp only [World.size_alloc]); (try dsimp only); omega)).trans ea0_2_1
  have ea0_3_2 : w2.cell? ⟨w.heap.size, 3, none⟩ = some (.int .i64 x0.2.2.2) := (hb2.cell (by (try simp only [World.size_alloc]); (try dsimp only); omega)).trans ea0_3_1
  clear ea0_0_1 ea0_1_1 ea0_2_1 ea0_3_1
  have vtp0_2 : Below w2.heap.size w2 w2 := Below.refl _ _
  go_wp2_with fail
  refine (C_spec_FormatInterest _ _ x0 (Ty.ow_rd (Ty.ow_bel (by repeat' (first | (with_reducible exact Below.refl _ _) | (with_reducible assumption) | (with_reducible refine bel_set ?_ (by (try dsimp only); omega) _) | (with_reducible refine bel_alloc ?_ _) | (with_reducible refine bel_drewN ?_ _) | (with_reducible refine bel_drew ?_))) how2)) s0).mono ?_
  rintro e w3 ⟨rfl, hb3⟩
  have st3 : Below w2.heap.size w2 w3 := bel_trans (by repeat' (first | (with_reducible exact Below.refl _ _) | (with_reducible assumption) | (with_reducible refine bel_set ?_ (by (try dsimp only); omega) _) | (with_reducible refine bel_alloc ?_ _) | (with_reducible refine bel_drewN ?_ _) | (with_reducible refine bel_drew ?_))) hb3
  have zz3 : w2.heap.size + 0 ≤ w3.heap.size := by have := hb3.size; (try simp only [World.size_alloc] at this); omega
  have vw_3 : Below w.heap.size w w3 := bel_trans vw_2 st3
  have za0_3 : w.heap.size < w3.heap.size := by omega
  have ea0_0_3 : w3.cell? ⟨w.heap.size, 0, none⟩ = some (.slice A00 (List.length x0.1) c00) := (hb3.cell (by (try simp only [World.size_alloc]); (try dsimp only); omega)).trans ea0_0_2
  have ea0_1_3 : w3.cell? ⟨w.heap.size, 1, none⟩ = some (.int .i64 x0.2.1) := (hb3.cell (by (try simp only [World.size_alloc]); (try dsimp only); omega)).trans ea0_1_2
  have ea0_2_3 : w3.cell? ⟨w.heap.size, 2, none⟩ = some (.int .i64 x0.2.2.1) := (hb3.cell (by (try simp only [World.size_alloc]); (try dsimp only); omega)).trans ea0_2_2
  have ea0_3_3 : w3.cell? ⟨w.heap.size, 3, none⟩ = some (.int .i64 x0.2.2.2) := (hb3.cell (by (try simp only [World.size_alloc]); (try dsimp only); omega)).trans ea0_3_2
  clear ea0_0_2 ea0_1_2 ea0_2_2 ea0_3_2
  go_wp2_with fail
  refine (C_laws_toInterest _ _ x0 (Ty.rd_below (by repeat' (first | (with_reducible exact Below.refl _ _) | (with_reducible assumption) | (with_reducible refine bel_set ?_ (by (try dsimp only); omega) _) | (with_reducible refine bel_alloc ?_ _) | (with_reducible refine bel_drewN ?_ _) | (with_reducible refine bel_drew ?_))) h0) s0).mono ?_
  rintro e w4 ⟨cs4_, fp4, rfl, how4, hfr4, hb4⟩
  obtain ⟨A4_0, c4_0, rfl⟩ := ow_Interest how4
  have st4 : Below w3.heap.size w3 w4 := bel_trans (by repeat' (first | (with_reducible exact Below.refl _ _) | (with_reducible assumption) | (with_reducible refine bel_set ?_ (by (try dsimp only); omega) _) | (with_reducible refine bel_alloc ?_ _) | (with_reducible refine bel_drewN ?_ _) | (with_reducible refine bel_drew ?_))) hb4
  have zz4 : w3.heap.size + 0 ≤ w4.heap.size := by have := hb4.size; (try simp only [World.size_alloc] at this); omega
  have vw_4 : Below w.heap.size w w4 := bel_trans vw_3 st4
  have za0_4 : w.heap.size < w4.heap.size := by omega
  have ea0_0_4 : w4.cell? ⟨w.heap.size, 0, none⟩ = some (.slice A00 (List.length x0.1) c00) := (hb4.cell (by (try simp only [World.size_alloc]); (try dsimp only); omega)).trans ea0_0_3
  have ea0_1_4 : w4.cell? ⟨w.heap.size, 1, none⟩ = some (.int .i64 x0.2.1) := (hb4.cell (by (try simp only [World.size_alloc]); (try dsimp only); omega)).trans ea0_1_3
  have ea0_2_4 : w4.cell? ⟨w.heap.size, 2, none⟩ = some (.int .i64 x0.2.2.1) := (hb4.cell (by (try simp only [World.size_alloc]); (try dsimp only); omega)).trans ea0_2_3
  have ea0_3_4 : w4.cell? ⟨w.heap.size, 3, none⟩ = some (.int .i64 x0.2.2.2) := (hb4.cell (by (try simp only [World.size_alloc]); (try dsimp only); omega)).trans ea0_3_3
  clear ea0_0_3 ea0_1_3 ea0_2_3 ea0_3_3
  have frX0 : FrI (w3.heap.size + 0) w4.heap.size fp4 := hfr4.mono (by (try simp only [World.size_alloc]); omega) (Nat.le_refl _)
  have vX0_4 : Below w4.heap.size w4 w4 := Below.refl _ _
  go_wp2_with fail
  refine (C_impl_FormatInterest _ _ x0 (Ty.ow_rd (Ty.ow_bel (by repeat' (first | (with_reducible exact Below.refl _ _) | (with_reducible assumption) | (with_reducible refine bel_set ?_ (by (try dsimp only); omega) _) | (with_reducible refine bel_alloc ?_ _) | (with_reducible refine bel_drewN ?_ _) | (with_reducible refine bel_drew ?_))) how4)) s0 (tabIs_bel (tabIs_bel ht vw_4) (by repeat' (first | (with_reducible exact Below.refl _ _) | (with_reducible assumption) | (with_reducible refine bel_set ?_ (by (try dsimp only); omega) _) | (with_reducible refine bel_alloc ?_ _) | (with_reducible refine bel_drewN ?_ _) | (with_reducible refine bel_drew ?_))))).mono ?_
  rintro e w5 ⟨rfl, hb5⟩
  have st5 : Below w4.heap.size w4 w5 := bel_trans (by repeat' (first | (with_reducible exact Below.refl _ _) | (with_reducible assumption) | (with_reducible refine bel_set ?_ (by (try dsimp only); omega) _) | (with_reducible refine bel_alloc ?_ _) | (with_reducible refine bel_drewN ?_ _) | (with_reducible refine bel_drew ?_))) hb5
  have zz5 : w4.heap.size + 1 ≤ w5.heap.size := by have := hb5.size; (try simp only [World.size_alloc] at this); omega
  have vw_5 : Below w.heap.size w w5 := bel_trans vw_4 st5
  have vX0_5 : Below w4.heap.size w4 w5 := st5
  have za0_5 : w.heap.size < w5.heap.size := by omega
  have ea0_0_5 : w5.cell? ⟨w.heap.size, 0, none⟩ = some (.slice A00 (List.length x0.1) c00) := (hb5.cell (by (try simp only [World.size_alloc]); (try dsimp only); omega)).trans ((World.cell?_alloc_lt _ _ _ (by (try simp only [World.size_alloc]); (try dsimp only); omega)).trans ea0_0_4)
  have ea0_1_5 : w5.cell? ⟨w.heap.size, 1, none⟩ = some (.int .i64 x0.2.1) := (hb5.cell (by (try simp only [World.size_alloc]); (try dsimp only); omega)).trans ((World.cell?_alloc_lt _ _ _ (by (try simp only [World.size_alloc]); (try dsimp only); omega)).trans ea0_1_4)
  have ea0_2_5 : w5.cell? ⟨w.heap.size, 2, none⟩ = some (.int .i64 x0.2.2.1) := (hb5.cell (by (try simp only [World.size_alloc]); (try dsimp only); omega)).trans ((World.cell?_alloc_lt _ _ _ (by (try simp only [World.size_alloc]); (try dsimp only); omega)).trans ea0_2_4)
  have ea0_3_5 : w5.cell? ⟨w.heap.size, 3, none⟩ = some (.int .i64 x0.2.2.2) := (hb5.cell (by (try simp only [World.size_alloc]); (try dsimp only); omega)).trans ((World.cell?_alloc_lt _ _ _ (by (try simp only [World.size_alloc]); (try dsimp only); omega)).trans ea0_3_4)
  have zx0_5 : w4.heap.size < w5.heap.size := by omega
  have ex0_0_5 : w5.cell? ⟨w4.heap.size, 0, none⟩ = some (.slice A4_0 (List.length x0.1) c4_0) := (hb5.cell (by (try simp only [World.size_alloc]); (try dsimp only); omega)).trans ((cell_new w4 31 #[.slice A4_0 (List.length x0.1) c4_0, .int .i64 x0.2.1, .int .i64 x0.2.2.1, .int .i64 x0.2.2.2] 0 (by first | rfl | (simp only [World.size_alloc]))) : _ = some (Value.slice A4_0 (List.length x0.1) c4_0))
  have ex0_1_5 : w5.cell? ⟨w4.heap.size, 1, none⟩ = some (.int .i64 x0.2.1) := (hb5.cell (by (try simp only [World.size_alloc]); (try dsimp only); omega)).trans ((cell_new w4 31 #[.slice A4_0 (List.length x0.1) c4_0, .int .i64 x0.2.1, .int .i64 x0.2.2.1, .int .i64 x0.2.2.2] 1 (by first | rfl | (simp only [World.size_alloc]))) : _ = some (Value.int .i64 x0.2.1))
  have ex0_2_5 : w5.cell? ⟨w4.heap.size, 2, none⟩ = some (.int .i64 x0.2.2.1) := (hb5.cell (by (try simp only [World.size_alloc]); (try dsimp only); omega)).trans ((cell_new w4 31 #[.slice A4_0 (List.length x0.1) c4_0, .int .i64 x0.2.1, .int .i64 x0.2.2.1, .int .i64 x0.2.2.2] 2 (by first | rfl | (simp only [World.size_alloc]))) : _ = some (Value.int .i64 x0.2.2.1))
  have ex0_3_5 : w5.cell? ⟨w4.heap.size, 3, none⟩ = some (.int .i64 x0.2.2.2) := (hb5.cell (by (try simp only [World.size_alloc]); (try dsimp only); omega)).trans ((cell_new w4 31 #[.slice A4_0 (List.length x0.1) c4_0, .int .i64 x0.2.1, .int .i64 x0.2.2.1, .int .i64 x0.2.2.2] 3 (by first | rfl | (simp only [World.size_alloc]))) : _ = some (Value.int .i64 x0.2.2.2))
  clear ea0_0_4 ea0_1_4 ea0_2_4 ea0_3_4
  have hq0 : ((f_FormatInterest x0) != (f_FormatInterest x0)) = false := by simp
  have HSq0 : Hid (∀ W, Below w5.heap.size w5 W → Below w5.heap.size w5 W ∧ W.cell? ⟨w.heap.size, 0, none⟩ = some (.slice A00 (List.length x0.1) c00) ∧ W.cell? ⟨w.heap.size, 1, none⟩ = some (.int .i64 x0.2.1) ∧ W.cell? ⟨w.heap.size, 2, none⟩ = some (.int .i64 x0.2.2.1) ∧ W.cell? ⟨w.heap.size, 3, none⟩ = some (.int .i64 x0.2.2.2) ∧ W.cell? ⟨w4.heap.size, 0, none⟩ = some (.slice A4_0 (List.length x0.1) c4_0) ∧ W.cell? ⟨w4.heap.size, 1, none⟩ = some (.int .i64 x0.2.1) ∧ W.cell? ⟨w4.heap.size, 2, none⟩ = some (.int .i64 x0.2.2.1) ∧ W.cell? ⟨w4.heap.size, 3, none⟩ = some (.int .i64 x0.2.2.2)) := fun W hW => ⟨hW, (hW.cell za0_5).trans ea0_0_5, (hW.cell za0_5).trans ea0_1_5, (hW.cell za0_5).trans ea0_2_5, (hW.cell za0_5).trans ea0_3_5, (hW.cell zx0_5).trans ex0_0_5, (hW.cell zx0_5).trans ex0_1_5, (hW.cell zx0_5).trans ex0_2_5, (hW.cell zx0_5).trans ex0_3_5⟩
  go_wp2_with fail
  go_region_held3 (fun W => Below w5.heap.size w5 W ∧ W.cell? ⟨w.heap.size, 0, none⟩ = some (.slice A00 (List.length x0.1) c00) ∧ W.cell? ⟨w.heap.size, 1, none⟩ = some (.int .i64 x0.2.1) ∧ W.cell? ⟨w.heap.size, 2, none⟩ = some (.int .i64 x0.2.2.1) ∧ W.cell? ⟨w.heap.size, 3, none⟩ = some (.int .i64 x0.2.2.2) ∧ W.cell? ⟨w4.heap.size, 0, none⟩ = some (.slice A4_0 (List.length x0.1) c4_0) ∧ W.cell? ⟨w4.heap.size, 1, none⟩ = some (.int .i64 x0.2.1) ∧ W.cell? ⟨w4.heap.size, 2, none⟩ = some (.int .i64 x0.2.2.1) ∧ W.cell? ⟨w4.heap.size, 3, none⟩ = some (.int .i64 x0.2.2.2)) (exact HSq0.out _ (by repeat' (first | (with_reducible exact Below.refl _ _) | (with_reducible assumption) | (with_reducible refine bel_set ?_ (by (try dsimp only); omega) _) | (with_reducible refine bel_alloc ?_ _) | (with_reducible refine bel_drewN ?_ _) | (with_reducible refine bel_drew ?_))))
    (first
      | (go_at_call 7; (with_reducible refine (C_laws_toInterest _ _ x0 (Ty.rd_below (by repeat' (first | (with_reducible exact Below.refl _ _) | (with_reducible assumption) | (with_reducible refine bel_set ?_ (by (try dsimp only); omega) _) | (with_reducible refine bel_alloc ?_ _) | (with_reducible refine bel_drewN ?_ _) | (with_reducible refine bel_drew ?_))) h0) s0).mono ?_); rintro e wq ⟨csq, fpq, rfl, howq, hfrq, hbq⟩; have hvq : Below w5.heap.size w5 wq := bel_trans (by repeat' (first | (with_reducible exact Below.refl _ _) | (with_reducible assumption) | (with_reducible refine bel_set ?_ (by (try dsimp only); omega) _) | (with_reducible refine bel_alloc ?_ _) | (with_reducible refine bel_drewN ?_ _) | (with_reducible refine bel_drew ?_))) hbq; have hxq : Below w4.heap.size w4 wq := bel_trans vX0_5 hvq)
      | (go_at_call 9; (with_reducible refine (C_laws_eqInterest _ _ _ x0 (Ty.rd_below hxq (Ty.ow_rd how4)) (Ty.ow_rd howq)).mono ?_); rintro e w6 ⟨rfl, hb6⟩; have hvz : Below w5.heap.size w5 w6 := bel_trans hvq hb6))
  have st6 : Below w5.heap.size w5 w6 := hvz
  clear hvz
  have zz6 : w5.heap.size ≤ w6.heap.size := st6.size
  have vw_6 : Below w.heap.size w w6 := bel_trans vw_5 st6
  have vX0_6 : Below w4.heap.size w4 w6 := bel_trans vX0_5 st6
  have za0_6 : w.heap.size < w6.heap.size := by omega
  have ea0_0_6 : w6.cell? ⟨w.heap.size, 0, none⟩ = some (.slice A00 (List.length x0.1) c00) := (st6.cell za0_5).trans ea0_0_5
  have ea0_1_6 : w6.cell? ⟨w.heap.size, 1, none⟩ = some (.int .i64 x0.2.1) := (st6.cell za0_5).trans ea0_1_5
  have ea0_2_6 : w6.cell? ⟨w.heap.size, 2, none⟩ = some (.int .i64 x0.2.2.1) := (st6.cell za0_5).trans ea0_2_5
  have ea0_3_6 : w6.cell? ⟨w.heap.size, 3, none⟩ = some (.int .i64 x0.2.2.2) := (st6.cell za0_5).trans ea0_3_5
  have zx0_6 : w4.heap.size < w6.heap.size := by omega
  have ex0_0_6 : w6.cell? ⟨w4.heap.size, 0, none⟩ = some (.slice A4_0 (List.length x0.1) c4_0) := (st6.cell zx0_5).trans ex0_0_5
  have ex0_1_6 : w6.cell? ⟨w4.heap.size, 1, none⟩ = some (.int .i64 x0.2.1) := (st6.cell zx0_5).trans ex0_1_5
  have ex0_2_6 : w6.cell? ⟨w4.heap.size, 2, none⟩ = some (.int .i64 x0.2.2.1) := (st6.cell zx0_5).trans ex0_2_5
  have ex0_3_6 : w6.cell? ⟨w4.heap.size, 3, none⟩ = some (.int .i64 x0.2.2.2) := (st6.cell zx0_5).trans ex0_3_5
  clear ea0_0_5 ea0_1_5 ea0_2_5 ea0_3_5 ex0_0_5 ex0_1_5 ex0_2_5 ex0_3_5
  go_wp2_with fail
  go_ret
  exact ⟨rfl, vw_6⟩
end Go.Proofs.YtpjnidfdkggpfaaDoor
