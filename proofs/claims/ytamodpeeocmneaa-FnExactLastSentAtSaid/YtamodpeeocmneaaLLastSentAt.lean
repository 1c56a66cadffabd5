/- The law FnExactLastSentAt, walked out of the contracts. Printed by a program. -/
import Derived.Test.YtamodpeeocmneaaPnd
import Derived.Deep.RegionHeld3
namespace Go.Proofs.Ytamodpeeocmneaa
open Go.RowKit
set_option linter.unusedVariables false
set_option linter.unusedSimpArgs false

set_option maxRecDepth 100000 in
set_option maxHeartbeats 4000000 in
theorem L_LastSentAt (w : World) (v0 : Value) (x0 : Ty.D (.sl tPendingInterest)) (h0 : Ty.rd w (.sl tPendingInterest) [v0] x0) (cs1 : List Value) (x1 : Ty.D (.sl .str)) (h1 : Ty.rd w (.sl .str) cs1 x1) :
    Calls Try.prog 11 #[v0, .agg cs1.toArray] w (RetB w true) := by
  obtain ⟨A10, c10, rfl⟩ := Ty.rd_slv h1
  go_enter Try.func11, Try.ntmps11
  go_wp2_with fail
  refine (C_laws_szPendingInterestS _ _ x0 1048576 (Ty.rd_below (by repeat' (first | (with_reducible exact Below.refl _ _) | (with_reducible assumption) | (with_reducible refine bel_set ?_ (by (try dsimp only); omega) _) | (with_reducible refine bel_alloc ?_ _) | (with_reducible refine bel_drewN ?_ _) | (with_reducible refine bel_drew ?_))) h0) (by omega) (by omega)).mono ?_
  rintro e w1 ⟨r1, rfl, hr1, hb1⟩
  have st1 : Below w.heap.size w w1 := bel_trans (by repeat' (first | (with_reducible exact Below.refl _ _) | (with_reducible assumption) | (with_reducible refine bel_set ?_ (by (try dsimp only); omega) _) | (with_reducible refine bel_alloc ?_ _) | (with_reducible refine bel_drewN ?_ _) | (with_reducible refine bel_drew ?_))) hb1
  have zz1 : w.heap.size + 1 ≤ w1.heap.size := by have := hb1.size; (try simp only [World.size_alloc] at this); omega
  have vw_1 : Below w.heap.size w w1 := st1
  have za1_1 : w.heap.size < w1.heap.size := by omega
  have ea1_0_1 : w1.cell? ⟨w.heap.size, 0, none⟩ = some (.slice A10 (List.length x1) c10) := (hb1.cell (by (try simp only [World.size_alloc]); (try dsimp only); omega)).trans ((cell_new w 24 #[.slice A10 (List.length x1) c10] 0 (by first | rfl | (simp only [World.size_alloc]))) : _ = some (Value.slice A10 (List.length x1) c10))
  rcases hr1 with rfl | ⟨p1, q1⟩
  · go_wp2
    go_ret
    exact ⟨rfl, vw_1⟩
  go_wp2_with fail
  refine (C_laws_szName _ _ x1 r1 (Ty.rd_below (by repeat' (first | (with_reducible exact Below.refl _ _) | (with_reducible assumption) | (with_reducible refine bel_set ?_ (by (try dsimp only); omega) _) | (with_reducible refine bel_alloc ?_ _) | (with_reducible refine bel_drewN ?_ _) | (with_reducible refine bel_drew ?_))) h1) p1 (by omega)).mono ?_
  rintro e w2 ⟨r2, rfl, hr2, hb2⟩
  have st2 : Below w1.heap.size w1 w2 := bel_trans (by repeat' (first | (with_reducible exact Below.refl _ _) | (with_reducible assumption) | (with_reducible refine bel_set ?_ (by (try dsimp only); omega) _) | (with_reducible refine bel_alloc ?_ _) | (with_reducible refine bel_drewN ?_ _) | (with_reducible refine bel_drew ?_))) hb2
  have zz2 : w1.heap.size + 0 ≤ w2.heap.size := by have := hb2.size; (try simp only [World.size_alloc] at this); omega
  have vw_2 : Below w.heap.size w w2 := bel_trans vw_1 st2
  have za1_2 : w.heap.size < w2.heap.size := by omega
  have ea1_0_2 : w2.cell? ⟨w.heap.size, 0, none⟩ = some (.slice A10 (List.length x1) c10) := (hb2.cell (by (try simp only [World.size_alloc]); (try dsimp only); omega)).trans ea1_0_1
  clear ea1_0_1
  rcases hr2 with rfl | ⟨p2, q2⟩
  · go_wp2
    go_ret
    exact ⟨rfl, vw_2⟩
  have s0 : Ty.bulk (.sl tPendingInterest) x0 ≤ 1048576 := by omega
  have s1 : Ty.bulk (.sl .str) x1 ≤ 1048576 := by omega
  have HSp : Hid (∀ W, Below w2.heap.size w2 W → Below w2.heap.size w2 W ∧ W.cell? ⟨w.heap.size, 0, none⟩ = some (.slice A10 (List.length x1) c10)) := fun W hW => ⟨hW, (hW.cell za1_2).trans ea1_0_2⟩
  have hvp : Below w2.heap.size w2 w2 := Below.refl _ _
  go_wp2_with fail
  go_region_held3 (fun W => Below w2.heap.size w2 W ∧ W.cell? ⟨w.heap.size, 0, none⟩ = some (.slice A10 (List.length x1) c10)) (exact HSp.out _ (by repeat' (first | (with_reducible exact Below.refl _ _) | (with_reducible assumption) | (with_reducible refine bel_set ?_ (by (try dsimp only); omega) _) | (with_reducible refine bel_alloc ?_ _) | (with_reducible refine bel_drewN ?_ _) | (with_reducible refine bel_drew ?_))))
    (first
      | (go_at_call 53; (with_reducible refine (C_laws_toPendingInterestS _ _ x0 (Ty.rd_below (by repeat' (first | (with_reducible exact Below.refl _ _) | (with_reducible assumption) | (with_reducible refine bel_set ?_ (by (try dsimp only); omega) _) | (with_reducible refine bel_alloc ?_ _) | (with_reducible refine bel_drewN ?_ _) | (with_reducible refine bel_drew ?_))) h0) s0).mono ?_); rintro e wp0 ⟨Ap0, cp0, fpp0, rfl, howp0, hfrp0, hbp0⟩; have hvp0 : Below w2.heap.size w2 wp0 := bel_trans (by repeat' (first | (with_reducible exact Below.refl _ _) | (with_reducible assumption) | (with_reducible refine bel_set ?_ (by (try dsimp only); omega) _) | (with_reducible refine bel_alloc ?_ _) | (with_reducible refine bel_drewN ?_ _) | (with_reducible refine bel_drew ?_))) hbp0; have vwp0 : Below w.heap.size w wp0 := bel_trans (by repeat' (first | (with_reducible exact Below.refl _ _) | (with_reducible assumption) | (with_reducible refine bel_set ?_ (by (try dsimp only); omega) _) | (with_reducible refine bel_alloc ?_ _) | (with_reducible refine bel_drewN ?_ _) | (with_reducible refine bel_drew ?_))) hbp0)
      | (go_at_call 35; (with_reducible refine (C_laws_toName _ _ x1 (Ty.rd_below (by repeat' (first | (with_reducible exact Below.refl _ _) | (with_reducible assumption) | (with_reducible refine bel_set ?_ (by (try dsimp only); omega) _) | (with_reducible refine bel_alloc ?_ _) | (with_reducible refine bel_drewN ?_ _) | (with_reducible refine bel_drew ?_))) h1) s1).mono ?_); rintro e wp1 ⟨csp1, fpp1, rfl, howp1, hfrp1, hbp1⟩; have hvp1 : Below w2.heap.size w2 wp1 := bel_trans (by repeat' (first | (with_reducible exact Below.refl _ _) | (with_reducible assumption) | (with_reducible refine bel_set ?_ (by (try dsimp only); omega) _) | (with_reducible refine bel_alloc ?_ _) | (with_reducible refine bel_drewN ?_ _) | (with_reducible refine bel_drew ?_))) hbp1; have vwp1 : Below w.heap.size w wp1 := bel_trans (by repeat' (first | (with_reducible exact Below.refl _ _) | (with_reducible assumption) | (with_reducible refine bel_set ?_ (by (try dsimp only); omega) _) | (with_reducible refine bel_alloc ?_ _) | (with_reducible refine bel_drewN ?_ _) | (with_reducible refine bel_drew ?_))) hbp1; have yp0_p1 : Below wp0.heap.size wp0 wp1 := bel_trans (by repeat' (first | (with_reducible exact Below.refl _ _) | (with_reducible assumption) | (with_reducible refine bel_set ?_ (by (try dsimp only); omega) _) | (with_reducible refine bel_alloc ?_ _) | (with_reducible refine bel_drewN ?_ _) | (with_reducible refine bel_drew ?_))) hbp1)
      | (go_at_call 58; (with_reducible refine (C_spec_LastSentAt _ _ x0 _ x1 (Ty.rd_below (by repeat' (first | (with_reducible exact Below.refl _ _) | (with_reducible assumption) | (with_reducible refine bel_set ?_ (by (try dsimp only); omega) _) | (with_reducible refine bel_alloc ?_ _) | (with_reducible refine bel_drewN ?_ _) | (with_reducible refine bel_drew ?_))) (Ty.ow_rd howp0)) (Ty.rd_below (by repeat' (first | (with_reducible exact Below.refl _ _) | (with_reducible assumption) | (with_reducible refine bel_set ?_ (by (try dsimp only); omega) _) | (with_reducible refine bel_alloc ?_ _) | (with_reducible refine bel_drewN ?_ _) | (with_reducible refine bel_drew ?_))) (Ty.ow_rd howp1)) s0 s1).mono ?_); rintro e w3 ⟨rfl, hb3⟩; have hvpz : Below w2.heap.size w2 w3 := bel_trans (by repeat' (first | (with_reducible exact Below.refl _ _) | (with_reducible assumption) | (with_reducible refine bel_set ?_ (by (try dsimp only); omega) _) | (with_reducible refine bel_alloc ?_ _) | (with_reducible refine bel_drewN ?_ _) | (with_reducible refine bel_drew ?_))) hb3))
  have st3 : Below w2.heap.size w2 w3 := hvpz
  have zz3 : w2.heap.size ≤ w3.heap.size := st3.size
  have vw_3 : Below w.heap.size w w3 := bel_trans vw_2 st3
  have za1_3 : w.heap.size < w3.heap.size := by omega
  have ea1_0_3 : w3.cell? ⟨w.heap.size, 0, none⟩ = some (.slice A10 (List.length x1) c10) := (st3.cell za1_2).trans ea1_0_2
  clear ea1_0_2
  go_wp2_with fail
  refine (C_laws_toPendingInterestS _ _ x0 (Ty.rd_below (by repeat' (first | (with_reducible exact Below.refl _ _) | (with_reducible assumption) | (with_reducible refine bel_set ?_ (by (try dsimp only); omega) _) | (with_reducible refine bel_alloc ?_ _) | (with_reducible refine bel_drewN ?_ _) | (with_reducible refine bel_drew ?_))) h0) s0).mono ?_
  rintro e w4 ⟨A4_, c4_, fp4, rfl, how4, hfr4, hb4⟩
  have st4 : Below w3.heap.size w3 w4 := bel_trans (by repeat' (first | (with_reducible exact Below.refl _ _) | (with_reducible assumption) | (with_reducible refine bel_set ?_ (by (try dsimp only); omega) _) | (with_reducible refine bel_alloc ?_ _) | (with_reducible refine bel_drewN ?_ _) | (with_reducible refine bel_drew ?_))) hb4
  have zz4 : w3.heap.size + 0 ≤ w4.heap.size := by have := hb4.size; (try simp only [World.size_alloc] at this); omega
  have vw_4 : Below w.heap.size w w4 := bel_trans vw_3 st4
  have za1_4 : w.heap.size < w4.heap.size := by omega
  have ea1_0_4 : w4.cell? ⟨w.heap.size, 0, none⟩ = some (.slice A10 (List.length x1) c10) := (hb4.cell (by (try simp only [World.size_alloc]); (try dsimp only); omega)).trans ea1_0_3
  clear ea1_0_3
  have frX0 : FrI (w3.heap.size + 0) w4.heap.size fp4 := hfr4.mono (by (try simp only [World.size_alloc]); omega) (Nat.le_refl _)
  have vX0_4 : Below w4.heap.size w4 w4 := Below.refl _ _
  go_wp2_with fail
  refine (C_laws_toName _ _ x1 (Ty.rd_below (by repeat' (first | (with_reducible exact Below.refl _ _) | (with_reducible assumption) | (with_reducible refine bel_set ?_ (by (try dsimp only); omega) _) | (with_reducible refine bel_alloc ?_ _) | (with_reducible refine bel_drewN ?_ _) | (with_reducible refine bel_drew ?_))) h1) s1).mono ?_
  rintro e w5 ⟨cs5_, fp5, rfl, how5, hfr5, hb5⟩
  obtain ⟨A5_0, c5_0, rfl⟩ := Ty.ow_slv how5
  have st5 : Below w4.heap.size w4 w5 := bel_trans (by repeat' (first | (with_reducible exact Below.refl _ _) | (with_reducible assumption) | (with_reducible refine bel_set ?_ (by (try dsimp only); omega) _) | (with_reducible refine bel_alloc ?_ _) | (with_reducible refine bel_drewN ?_ _) | (with_reducible refine bel_drew ?_))) hb5
  have zz5 : w4.heap.size + 0 ≤ w5.heap.size := by have := hb5.size; (try simp only [World.size_alloc] at this); omega
  have vw_5 : Below w.heap.size w w5 := bel_trans vw_4 st5
  have vX0_5 : Below w4.heap.size w4 w5 := st5
  have za1_5 : w.heap.size < w5.heap.size := by omega
  have ea1_0_5 : w5.cell? ⟨w.heap.size, 0, none⟩ = some (.slice A10 (List.length x1) c10) := (hb5.cell (by (try simp only [World.size_alloc]); (try dsimp only); omega)).trans ea1_0_4
  clear ea1_0_4
  have frX1 : FrI (w4.heap.size + 0) w5.heap.size fp5 := hfr5.mono (by (try simp only [World.size_alloc]); omega) (Nat.le_refl _)
  have vX1_5 : Below w5.heap.size w5 w5 := Below.refl _ _
  go_wp2_with fail
  refine (C_impl_LastSentAt _ _ x0 _ x1 (Ty.ow_rd (Ty.ow_bel (by repeat' (first | (with_reducible exact Below.refl _ _) | (with_reducible assumption) | (with_reducible refine bel_set ?_ (by (try dsimp only); omega) _) | (with_reducible refine bel_alloc ?_ _) | (with_reducible refine bel_drewN ?_ _) | (with_reducible refine bel_drew ?_))) how4)) (Ty.ow_rd (Ty.ow_bel (by repeat' (first | (with_reducible exact Below.refl _ _) | (with_reducible assumption) | (with_reducible refine bel_set ?_ (by (try dsimp only); omega) _) | (with_reducible refine bel_alloc ?_ _) | (with_reducible refine bel_drewN ?_ _) | (with_reducible refine bel_drew ?_))) how5)) s0 s1).mono ?_
  rintro e w6 ⟨rfl, hb6⟩
  have st6 : Below w5.heap.size w5 w6 := bel_trans (by repeat' (first | (with_reducible exact Below.refl _ _) | (with_reducible assumption) | (with_reducible refine bel_set ?_ (by (try dsimp only); omega) _) | (with_reducible refine bel_alloc ?_ _) | (with_reducible refine bel_drewN ?_ _) | (with_reducible refine bel_drew ?_))) hb6
  have zz6 : w5.heap.size + 1 ≤ w6.heap.size := by have := hb6.size; (try simp only [World.size_alloc] at this); omega
  have vw_6 : Below w.heap.size w w6 := bel_trans vw_5 st6
  have vX0_6 : Below w4.heap.size w4 w6 := bel_trans vX0_5 st6
  have vX1_6 : Below w5.heap.size w5 w6 := st6
  have za1_6 : w.heap.size < w6.heap.size := by omega
  have ea1_0_6 : w6.cell? ⟨w.heap.size, 0, none⟩ = some (.slice A10 (List.length x1) c10) := (hb6.cell (by (try simp only [World.size_alloc]); (try dsimp only); omega)).trans ((World.cell?_alloc_lt _ _ _ (by (try simp only [World.size_alloc]); (try dsimp only); omega)).trans ea1_0_5)
  have zx1_6 : w5.heap.size < w6.heap.size := by omega
  have ex1_0_6 : w6.cell? ⟨w5.heap.size, 0, none⟩ = some (.slice A5_0 (List.length x1) c5_0) := (hb6.cell (by (try simp only [World.size_alloc]); (try dsimp only); omega)).trans ((cell_new w5 29 #[.slice A5_0 (List.length x1) c5_0] 0 (by first | rfl | (simp only [World.size_alloc]))) : _ = some (Value.slice A5_0 (List.length x1) c5_0))
  clear ea1_0_5
  have hq0 : (((f_LastSentAt x0 x1) : Int) != (f_LastSentAt x0 x1)) = false := by simp
  go_wp2_with fail
  refine (C_laws_toPendingInterestS _ _ x0 (Ty.rd_below (by repeat' (first | (with_reducible exact Below.refl _ _) | (with_reducible assumption) | (with_reducible refine bel_set ?_ (by (try dsimp only); omega) _) | (with_reducible refine bel_alloc ?_ _) | (with_reducible refine bel_drewN ?_ _) | (with_reducible refine bel_drew ?_))) h0) s0).mono ?_
  rintro e w7 ⟨A7_, c7_, fp7, rfl, how7, hfr7, hb7⟩
  have st7 : Below w6.heap.size w6 w7 := bel_trans (by repeat' (first | (with_reducible exact Below.refl _ _) | (with_reducible assumption) | (with_reducible refine bel_set ?_ (by (try dsimp only); omega) _) | (with_reducible refine bel_alloc ?_ _) | (with_reducible refine bel_drewN ?_ _) | (with_reducible refine bel_drew ?_))) hb7
  have zz7 : w6.heap.size + 0 ≤ w7.heap.size := by have := hb7.size; (try simp only [World.size_alloc] at this); omega
  have vw_7 : Below w.heap.size w w7 := bel_trans vw_6 st7
  have vX0_7 : Below w4.heap.size w4 w7 := bel_trans vX0_6 st7
  have vX1_7 : Below w5.heap.size w5 w7 := bel_trans vX1_6 st7
  have za1_7 : w.heap.size < w7.heap.size := by omega
  have ea1_0_7 : w7.cell? ⟨w.heap.size, 0, none⟩ = some (.slice A10 (List.length x1) c10) := (hb7.cell (by (try simp only [World.size_alloc]); (try dsimp only); omega)).trans ea1_0_6
  have zx1_7 : w5.heap.size < w7.heap.size := by omega
  have ex1_0_7 : w7.cell? ⟨w5.heap.size, 0, none⟩ = some (.slice A5_0 (List.length x1) c5_0) := (hb7.cell (by (try simp only [World.size_alloc]); (try dsimp only); omega)).trans ex1_0_6
  clear ea1_0_6 ex1_0_6
  go_wp2_with fail
  refine (C_laws_eqPendingInterestS _ _ _ x0 (Ty.ow_rd (Ty.ow_bel (by repeat' (first | (with_reducible exact Below.refl _ _) | (with_reducible assumption) | (with_reducible refine bel_set ?_ (by (try dsimp only); omega) _) | (with_reducible refine bel_alloc ?_ _) | (with_reducible refine bel_drewN ?_ _) | (with_reducible refine bel_drew ?_))) how4)) (Ty.ow_rd how7)).mono ?_
  rintro e w8 ⟨rfl, hb8⟩
  have st8 : Below w7.heap.size w7 w8 := bel_trans (by repeat' (first | (with_reducible exact Below.refl _ _) | (with_reducible assumption) | (with_reducible refine bel_set ?_ (by (try dsimp only); omega) _) | (with_reducible refine bel_alloc ?_ _) | (with_reducible refine bel_drewN ?_ _) | (with_reducible refine bel_drew ?_))) hb8
  have zz8 : w7.heap.size + 0 ≤ w8.heap.size := by have := hb8.size; (try simp only [World.size_alloc] at this); omega
  have vw_8 : Below w.heap.size w w8 := bel_trans vw_7 st8
  have vX0_8 : Below w4.heap.size w4 w8 := bel_trans vX0_7 st8
  have vX1_8 : Below w5.heap.size w5 w8 := bel_trans vX1_7 st8
  have za1_8 : w.heap.size < w8.heap.size := by omega
  have ea1_0_8 : w8.cell? ⟨w.heap.size, 0, none⟩ = some (.slice A10 (List.length x1) c10) := (hb8.cell (by (try simp only [World.size_alloc]); (try dsimp only); omega)).trans ea1_0_7
  have zx1_8 : w5.heap.size < w8.heap.size := by omega
  have ex1_0_8 : w8.cell? ⟨w5.heap.size, 0, none⟩ = some (.slice A5_0 (List.length x1) c5_0) := (hb8.cell (by (try simp only [World.size_alloc]); (try dsimp only); omega)).trans ex1_0_7
  clear ea1_0_7 ex1_0_7
  have HSq1 : Hid (∀ W, Below w8.heap.size w8 W → Below w8.heap.size w8 W ∧ W.cell? ⟨w.heap.size, 0, none⟩ = some (.slice A10 (List.length x1) c10) ∧ W.cell? ⟨w5.heap.size, 0, none⟩ = some (.slice A5_0 (List.length x1) c5_0)) := fun W hW => ⟨hW, (hW.cell za1_8).trans ea1_0_8, (hW.cell zx1_8).trans ex1_0_8⟩
  go_wp2_with fail
  go_region_held3 (fun W => Below w8.heap.size w8 W ∧ W.cell? ⟨w.heap.size, 0, none⟩ = some (.slice A10 (List.length x1) c10) ∧ W.cell? ⟨w5.heap.size, 0, none⟩ = some (.slice A5_0 (List.length x1) c5_0)) (exact HSq1.out _ (by repeat' (first | (with_reducible exact Below.refl _ _) | (with_reducible assumption) | (with_reducible refine bel_set ?_ (by (try dsimp only); omega) _) | (with_reducible refine bel_alloc ?_ _) | (with_reducible refine bel_drewN ?_ _) | (with_reducible refine bel_drew ?_))))
    (first
      | (go_at_call 35; (with_reducible refine (C_laws_toName _ _ x1 (Ty.rd_below (by repeat' (first | (with_reducible exact Below.refl _ _) | (with_reducible assumption) | (with_reducible refine bel_set ?_ (by (try dsimp only); omega) _) | (with_reducible refine bel_alloc ?_ _) | (with_reducible refine bel_drewN ?_ _) | (with_reducible refine bel_drew ?_))) h1) s1).mono ?_); rintro e wq ⟨csq, fpq, rfl, howq, hfrq, hbq⟩; have hvq : Below w8.heap.size w8 wq := bel_trans (by repeat' (first | (with_reducible exact Below.refl _ _) | (with_reducible assumption) | (with_reducible refine bel_set ?_ (by (try dsimp only); omega) _) | (with_reducible refine bel_alloc ?_ _) | (with_reducible refine bel_drewN ?_ _) | (with_reducible refine bel_drew ?_))) hbq; have hxq : Below w5.heap.size w5 wq := bel_trans vX1_8 hvq)
      | (go_at_call 38; (with_reducible refine (C_laws_eqName _ _ _ x1 (Ty.rd_below hxq (Ty.ow_rd how5)) (Ty.ow_rd howq)).mono ?_); rintro e w9 ⟨rfl, hb9⟩; have hvz : Below w8.heap.size w8 w9 := bel_trans hvq hb9))
  have st9 : Below w8.heap.size w8 w9 := hvz
  clear hvz
  have zz9 : w8.heap.size ≤ w9.heap.size := st9.size
  have vw_9 : Below w.heap.size w w9 := bel_trans vw_8 st9
  have vX0_9 : Below w4.heap.size w4 w9 := bel_trans vX0_8 st9
  have vX1_9 : Below w5.heap.size w5 w9 := bel_trans vX1_8 st9
  have za1_9 : w.heap.size < w9.heap.size := by omega
  have ea1_0_9 : w9.cell? ⟨w.heap.size, 0, none⟩ = some (.slice A10 (List.length x1) c10) := (st9.cell za1_8).trans ea1_0_8
  have zx1_9 : w5.heap.size < w9.heap.size := by omega
  have ex1_0_9 : w9.cell? ⟨w5.heap.size, 0, none⟩ = some (.slice A5_0 (List.length x1) c5_0) := (st9.cell zx1_8).trans ex1_0_8
  clear ea1_0_8 ex1_0_8
  go_wp2_with fail
  go_ret
  exact ⟨rfl, vw_9⟩
end Go.Proofs.Ytamodpeeocmneaa
