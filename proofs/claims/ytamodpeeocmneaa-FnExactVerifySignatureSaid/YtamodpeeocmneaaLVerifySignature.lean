/- The law FnExactVerifySignature, walked out of the contracts. Printed by a program. -/
import Derived.Test.YtamodpeeocmneaaVsg
import Derived.Deep.RegionHeld3
namespace Go.Proofs.Ytamodpeeocmneaa
open Go.RowKit
set_option linter.unusedVariables false
set_option linter.unusedSimpArgs false

set_option maxRecDepth 100000 in
set_option maxHeartbeats 4000000 in
theorem L_VerifySignature (w : World) (v0 : Value) (x0 : Ty.D (.sl tKey)) (h0 : Ty.rd w (.sl tKey) [v0] x0) (cs1 : List Value) (x1 : Ty.D tData) (h1 : Ty.rd w tData cs1 x1) :
    Calls Try.prog 4 #[v0, .agg cs1.toArray] w (RetB w true) := by
  obtain ⟨A10, c10, A11, c11, A12, c12, rfl, _, _, _, _, _⟩ := rd_Data h1
  go_enter Try.func4, Try.ntmps4
  go_wp2_with fail
  refine (C_laws_szKeyS _ _ x0 1048576 (Ty.rd_below (by repeat' (first | (with_reducible exact Below.refl _ _) | (with_reducible assumption) | (with_reducible refine bel_set ?_ (by (try dsimp only); omega) _) | (with_reducible refine bel_alloc ?_ _) | (with_reducible refine bel_drewN ?_ _) | (with_reducible refine bel_drew ?_))) h0) (by omega) (by omega)).mono ?_
  rintro e w1 ⟨r1, rfl, hr1, hb1⟩
  have st1 : Below w.heap.size w w1 := bel_trans (by repeat' (first | (with_reducible exact Below.refl _ _) | (with_reducible assumption) | (with_reducible refine bel_set ?_ (by (try dsimp only); omega) _) | (with_reducible refine bel_alloc ?_ _) | (with_reducible refine bel_drewN ?_ _) | (with_reducible refine bel_drew ?_))) hb1
  have zz1 : w.heap.size + 1 ≤ w1.heap.size := by have := hb1.size; (try simp only [World.size_alloc] at this); omega
  have vw_1 : Below w.heap.size w w1 := st1
  have za1_1 : w.heap.size < w1.heap.size := by omega
  have ea1_0_1 : w1.cell? ⟨w.heap.size, 0, none⟩ = some (.slice A10 (List.length x1.1) c10) := (hb1.cell (by (try simp only [World.size_alloc]); (try dsimp only); omega)).trans ((cell_new w 27 #[.slice A10 (List.length x1.1) c10, .slice A11 (List.length x1.2.1) c11, .slice A12 (List.length x1.2.2.1) c12, .int .i64 x1.2.2.2.1, .int .i64 x1.2.2.2.2] 0 (by first | rfl | (simp only [World.size_alloc]))) : _ = some (Value.slice A10 (List.length x1.1) c10))
  have ea1_1_1 : w1.cell? ⟨w.heap.size, 1, none⟩ = some (.slice A11 (List.length x1.2.1) c11) := (hb1.cell (by (try simp only [World.size_alloc]); (try dsimp only); omega)).trans ((cell_new w 27 #[.slice A10 (List.length x1.1) c10, .slice A11 (List.length x1.2.1) c11, .slice A12 (List.length x1.2.2.1) c12, .int .i64 x1.2.2.2.1, .int .i64 x1.2.2.2.2] 1 (by first | rfl | (simp only [World.size_alloc]))) : _ = some (Value.slice A11 (List.length x1.2.1) c11))
  have ea1_2_1 : w1.cell? ⟨w.heap.size, 2, none⟩ = some (.slice A12 (List.length x1.2.2.1) c12) := (hb1.cell (by (try simp only [World.size_alloc]); (try dsimp only); omega)).trans ((cell_new w 27 #[.slice A10 (List.length x1.1) c10, .slice A11 (List.length x1.2.1) c11, .slice A12 (List.length x1.2.2.1) c12, .int .i64 x1.2.2.2.1, .int .i64 x1.2.2.2.2] 2 (by first | rfl | (simp only [World.size_alloc]))) : _ = some (Value.slice A12 (List.length x1.2.2.1) c12))
  have ea1_3_1 : w1.cell? ⟨w.heap.size, 3, none⟩ = some (.int .i64 x1.2.2.2.1) := (hb1.cell (by (try simp only [World.size_alloc]); (try dsimp only); omega)).trans ((cell_new w 27 #[.slice A10 (List.length x1.1) c10, .slice A11 (List.length x1.2.1) c11, .slice A12 (List.length x1.2.2.1) c12, .int .i64 x1.2.2.2.1, .int .i64 x1.2.2.2.2] 3 (by first | rfl | (simp only [World.size_alloc]))) : _ = some (Value.int .i64 x1.2.2.2.1))
  have ea1_4_1 : w1.cell? ⟨w.heap.size, 4, none⟩ = some (.int .i64 x1.2.2.2.2) := (hb1.cell (by (try simp only [World.size_alloc]); (try dsimp only); omega)).trans ((cell_new w 27 #[.slice A10 (List.length x1.1) c10, .slice A11 (List.length x1.2.1) c11, .slice A12 (List.length x1.2.2.1) c12, .int .i64 x1.2.2.2.1, .int .i64 x1.2.2.2.2] 4 (by first | rfl | (simp only [World.size_alloc]))) : _ = some (Value.int .i64 x1.2.2.2.2))
  rcases hr1 with rfl | ⟨p1, q1⟩
  · go_wp2
    go_ret
    exact ⟨rfl, vw_1⟩
  go_wp2_with fail
  refine (C_laws_szData _ _ x1 r1 (Ty.rd_below (by repeat' (first | (with_reducible exact Below.refl _ _) | (with_reducible assumption) | (with_reducible refine bel_set ?_ (by (try dsimp only); omega) _) | (with_reducible refine bel_alloc ?_ _) | (with_reducible refine bel_drewN ?_ _) | (with_reducible refine bel_drew ?_))) h1) p1 (by omega)).mono ?_
  rintro e w2 ⟨r2, rfl, hr2, hb2⟩
  have st2 : Below w1.heap.size w1 w2 := bel_trans (by repeat' (first | (with_reducible exact Below.refl _ _) | (with_reducible assumption) | (with_reducible refine bel_set ?_ (by (try dsimp only); omega) _) | (with_reducible refine bel_alloc ?_ _) | (with_reducible refine bel_drewN ?_ _) | (with_reducible refine bel_drew ?_))) hb2
  have zz2 : w1.heap.size + 0 ≤ w2.heap.size := by have := hb2.size; (try simp only [World.size_alloc] at this); omega
  have vw_2 : Below w.heap.size w w2 := bel_trans vw_1 st2
  have za1_2 : w.heap.size < w2.heap.size := by omega
  have ea1_0_2 : w2.cell? ⟨w.heap.size, 0, none⟩ = some (.slice A10 (List.length x1.1) c10) := (hb2.cell (by (try simp only [World.size_alloc]); (try dsimp only); omega)).trans ea1_0_1
  have ea1_1_2 : w2.cell? ⟨w.heap.size, 1, none⟩ = some (.slice A11 (List.length x1.2.1) c11) := (hb2.cell (by (try simp only [World.size_alloc]); (try dsimp only); omega)).trans ea1_1_1
  have ea1_2_2 : w2.cell? ⟨w.heap.size, 2, none⟩ = some (.slice A12 (List.length x1.2.2.1) c12) := (hb2.cell (by (try simp only [World.size_alloc]); (try dsimp only); omega)).trans ea1_2_1
  have ea1_3_2 : w2.cell? ⟨w.heap.size, 3, none⟩ = some (.int .i64 x1.2.2.2.1) := (hb2.cell (by (try simp only [World.size_alloc]); (try dsimp only); omega)).trans ea1_3_1
  have ea1_4_2 : w2.cell? ⟨w.heap.size, 4, none⟩ = some (.int .i64 x1.2.2.2.2) := (hb2.cell (by (try simp only [World.size_alloc]); (try dsimp only); omega)).trans ea1_4_1
  clear ea1_0_1 ea1_1_1 ea1_2_1 ea1_3_1 ea1_4_1
  rcases hr2 with rfl | ⟨p2, q2⟩
  · go_wp2
    go_ret
    exact ⟨rfl, vw_2⟩
  have s0 : Ty.bulk (.sl tKey) x0 ≤ 1048576 := by omega
  have s1 : Ty.bulk tData x1 ≤ 1048576 := by omega
  have HSp : Hid (∀ W, Below w2.heap.size w2 W → Below w2.heap.size w2 W ∧ W.cell? ⟨w.heap.size, 0, none⟩ = some (.slice A10 (List.length x1.1) c10) ∧ W.cell? ⟨w.heap.size, 1, none⟩ = some (.slice A11 (List.length x1.2.1) c11) ∧ W.cell? ⟨w.heap.size, 2, none⟩ = some (.slice A12 (List.length x1.2.2.1) c12) ∧ W.cell? ⟨w.heap.size, 3, none⟩ = some (.int .i64 x1.2.2.2.1) ∧ W.cell? ⟨w.heap.size, 4, none⟩ = some (.int .i64 x1.2.2.2.2)) := fun W hW => ⟨hW, (hW.cell za1_2).trans ea1_0_2, (hW.cell za1_2).trans ea1_1_2, (hW.cell za1_2).trans ea1_2_2, (hW.cell za1_2).trans ea1_3_2, (hW.cell za1_2).trans ea1_4_2⟩
  have hvp : Below w2.heap.size w2 w2 := Below.refl _ _
  go_wp2_with fail
  go_region_held3 (fun W => Below w2.heap.size w2 W ∧ W.cell? ⟨w.heap.size, 0, none⟩ = some (.slice A10 (List.length x1.1) c10) ∧ W.cell? ⟨w.heap.size, 1, none⟩ = some (.slice A11 (List.length x1.2.1) c11) ∧ W.cell? ⟨w.heap.size, 2, none⟩ = some (.slice A12 (List.length x1.2.2.1) c12) ∧ W.cell? ⟨w.heap.size, 3, none⟩ = some (.int .i64 x1.2.2.2.1) ∧ W.cell? ⟨w.heap.size, 4, none⟩ = some (.int .i64 x1.2.2.2.2)) (exact HSp.out _ (by repeat' (first | (with_reducible exact Below.refl _ _) | (with_reducible assumption) | (with_reducible refine bel_set ?_ (by (try dsimp only); omega) _) | (with_reducible refine bel_alloc ?_ _) | (with_reducible refine bel_drewN ?_ _) | (with_reducible refine bel_drew ?_))))
    (first
      | (go_at_call 24; (with_reducible refine (C_laws_toKeyS _ _ x0 (Ty.rd_below (by repeat' (first | (with_reducible exact Below.refl _ _) | (with_reducible assumption) | (with_reducible refine bel_set ?_ (by (try dsimp only); omega) _) | (with_reducible refine bel_alloc ?_ _) | (with_reducible refine bel_drewN ?_ _) | (with_reducible refine bel_drew ?_))) h0) s0).mono ?_); rintro e wp0 ⟨Ap0, cp0, fpp0, rfl, howp0, hfrp0, hbp0⟩; have hvp0 : Below w2.heap.size w2 wp0 := bel_trans (by repeat' (first | (with_reducible exact Below.refl _ _) | (with_reducible assumption) | (with_reducible refine bel_set ?_ (by (try dsimp only); omega) _) | (with_reducible refine bel_alloc ?_ _) | (with_reducible refine bel_drewN ?_ _) | (with_reducible refine bel_drew ?_))) hbp0; have vwp0 : Below w.heap.size w wp0 := bel_trans (by repeat' (first | (with_reducible exact Below.refl _ _) | (with_reducible assumption) | (with_reducible refine bel_set ?_ (by (try dsimp only); omega) _) | (with_reducible refine bel_alloc ?_ _) | (with_reducible refine bel_drewN ?_ _) | (with_reducible refine bel_drew ?_))) hbp0)
      | (go_at_call 17; (with_reducible refine (C_laws_toData _ _ x1 (Ty.rd_below (by repeat' (first | (with_reducible exact Below.refl _ _) | (with_reducible assumption) | (with_reducible refine bel_set ?_ (by (try dsimp only); omega) _) | (with_reducible refine bel_alloc ?_ _) | (with_reducible refine bel_drewN ?_ _) | (with_reducible refine bel_drew ?_))) h1) s1).mono ?_); rintro e wp1 ⟨csp1, fpp1, rfl, howp1, hfrp1, hbp1⟩; have hvp1 : Below w2.heap.size w2 wp1 := bel_trans (by repeat' (first | (with_reducible exact Below.refl _ _) | (with_reducible assumption) | (with_reducible refine bel_set ?_ (by (try dsimp only); omega) _) | (with_reducible refine bel_alloc ?_ _) | (with_reducible refine bel_drewN ?_ _) | (with_reducible refine bel_drew ?_))) hbp1; have vwp1 : Below w.heap.size w wp1 := bel_trans (by repeat' (first | (with_reducible exact Below.refl _ _) | (with_reducible assumption) | (with_reducible refine bel_set ?_ (by (try dsimp only); omega) _) | (with_reducible refine bel_alloc ?_ _) | (with_reducible refine bel_drewN ?_ _) | (with_reducible refine bel_drew ?_))) hbp1; have yp0_p1 : Below wp0.heap.size wp0 wp1 := bel_trans (by repeat' (first | (with_reducible exact Below.refl _ _) | (with_reducible assumption) | (with_reducible refine bel_set ?_ (by (try dsimp only); omega) _) | (with_reducible refine bel_alloc ?_ _) | (with_reducible refine bel_drewN ?_ _) | (with_reducible refine bel_drew ?_))) hbp1)
      | (go_at_call 23; (with_reducible refine (C_spec_VerifySignature _ _ x0 _ x1 (Ty.rd_below (by repeat' (first | (with_reducible exact Below.refl _ _) | (with_reducible assumption) | (with_reducible refine bel_set ?_ (by (try dsimp only); omega) _) | (with_reducible refine bel_alloc ?_ _) | (with_reducible refine bel_drewN ?_ _) | (with_reducible refine bel_drew ?_))) (Ty.ow_rd howp0)) (Ty.rd_below (by repeat' (first | (with_reducible exact Below.refl _ _) | (with_reducible assumption) | (with_reducible refine bel_set ?_ (by (try dsimp only); omega) _) | (with_reducible refine bel_alloc ?_ _) | (with_reducible refine bel_drewN ?_ _) | (with_reducible refine bel_drew ?_))) (Ty.ow_rd howp1)) s0 s1).mono ?_); rintro e w3 ⟨rfl, hb3⟩; have hvpz : Below w2.heap.size w2 w3 := bel_trans (by repeat' (first | (with_reducible exact Below.refl _ _) | (with_reducible assumption) | (with_reducible refine bel_set ?_ (by (try dsimp only); omega) _) | (with_reducible refine bel_alloc ?_ _) | (with_reducible refine bel_drewN ?_ _) | (with_reducible refine bel_drew ?_))) hb3))
  have st3 : Below w2.heap.size w2 w3 := hvpz
  have zz3 : w2.heap.size ≤ w3.heap.size := st3.size
  have vw_3 : Below w.heap.size w w3 := bel_trans vw_2 st3
  have za1_3 : w.heap.size < w3.heap.size := by omega
  have ea1_0_3 : w3.cell? ⟨w.heap.size, 0, none⟩ = some (.slice A10 (List.length x1.1) c10) := (st3.cell za1_2).trans ea1_0_2
  have ea1_1_3 : w3.cell? ⟨w.heap.size, 1, none⟩ = some (.slice A11 (List.length x1.2.1) c11) := (st3.cell za1_2).trans ea1_1_2
  have ea1_2_3 : w3.cell? ⟨w.heap.size, 2, none⟩ = some (.slice A12 (List.length x1.2.2.1) c12) := (st3.cell za1_2).trans ea1_2_2
  have ea1_3_3 : w3.cell? ⟨w.heap.size, 3, none⟩ = some (.int .i64 x1.2.2.2.1) := (st3.cell za1_2).trans ea1_3_2
  have ea1_4_3 : w3.cell? ⟨w.heap.size, 4, none⟩ = some (.int .i64 x1.2.2.2.2) := (st3.cell za1_2).trans ea1_4_2
  clear ea1_0_2 ea1_1_2 ea1_2_2 ea1_3_2 ea1_4_2
  go_wp2_with fail
  refine (C_laws_toKeyS _ _ x0 (Ty.rd_below (by repeat' (first | (with_reducible exact Below.refl _ _) | (with_reducible assumption) | (with_reducible refine bel_set ?_ (by (try dsimp only); omega) _) | (with_reducible refine bel_alloc ?_ _) | (with_reducible refine bel_drewN ?_ _) | (with_reducible refine bel_drew ?_))) h0) s0).mono ?_
  rintro e w4 ⟨A4_, c4_, fp4, rfl, how4, hfr4, hb4⟩
  have st4 : Below w3.heap.size w3 w4 := bel_trans (by repeat' (first | (with_reducible exact Below.refl _ _) | (with_reducible assumption) | (with_reducible refine bel_set ?_ (by (try dsimp only); omega) _) | (with_reducible refine bel_alloc ?_ _) | (with_reducible refine bel_drewN ?_ _) | (with_reducible refine bel_drew ?_))) hb4
  have zz4 : w3.heap.size + 0 ≤ w4.heap.size := by have := hb4.size; (try simp only [World.size_alloc] at this); omega
  have vw_4 : Below w.heap.size w w4 := bel_trans vw_3 st4
  have za1_4 : w.heap.size < w4.heap.size := by omega
  have ea1_0_4 : w4.cell? ⟨w.heap.size, 0, none⟩ = some (.slice A10 (List.length x1.1) c10) := (hb4.cell (by (try simp only [World.size_alloc]); (try dsimp only); omega)).trans ea1_0_3
  have ea1_1_4 : w4.cell? ⟨w.heap.size, 1, none⟩ = some (.slice A11 (List.length x1.2.1) c11) := (hb4.cell (by (try simp only [World.size_alloc]); (try dsimp only); omega)).trans ea1_1_3
  have ea1_2_4 : w4.cell? ⟨w.heap.size, 2, none⟩ = some (.slice A12 (List.length x1.2.2.1) c12) := (hb4.cell (by (try simp only [World.size_alloc]); (try dsimp only); omega)).trans ea1_2_3
  have ea1_3_4 : w4.cell? ⟨w.heap.size, 3, none⟩ = some (.int .i64 x1.2.2.2.1) := (hb4.cell (by (try simp only [World.size_alloc]); (try dsimp only); omega)).trans ea1_3_3
  have ea1_4_4 : w4.cell? ⟨w.heap.size, 4, none⟩ = some (.int .i64 x1.2.2.2.2) := (hb4.cell (by (try simp only [World.size_alloc]); (try dsimp only); omega)).trans ea1_4_3
  clear ea1_0_3 ea1_1_3 ea1_2_3 ea1_3_3 ea1_4_3
  have frX0 : FrI (w3.heap.size + 0) w4.heap.size fp4 := hfr4.mono (by (try simp only [World.size_alloc]); omega) (Nat.le_refl _)
  have vX0_4 : Below w4.heap.size w4 w4 := Below.refl _ _
  go_wp2_with fail
  refine (C_laws_toData _ _ x1 (Ty.rd_below (by repeat' (first | (with_reducible exact Below.refl _ _) | (with_reducible assumption) | (with_reducible refine bel_set ?_ (by (try dsimp only); omega) _) | (with_reducible refine bel_alloc ?_ _) | (with_reducible refine bel_drewN ?_ _) | (with_reducible refine bel_drew ?_))) h1) s1).mono ?_
  rintro e w5 ⟨cs5_, fp5, rfl, how5, hfr5, hb5⟩
  obtain ⟨A5_0, c5_0, A5_1, c5_1, A5_2, c5_2, rfl⟩ := ow_Data how5
  have st5 : Below w4.heap.size w4 w5 := bel_trans (by repeat' (first | (with_reducible exact Below.refl _ _) | (with_reducible assumption) | (with_reducible refine bel_set ?_ (by (try dsimp only); omega) _) | (with_reducible refine bel_alloc ?_ _) | (with_reducible refine bel_drewN ?_ _) | (with_reducible refine bel_drew ?_))) hb5
  have zz5 : w4.heap.size + 0 ≤ w5.heap.size := by have := hb5.size; (try simp only [World.size_alloc] at this); omega
  have vw_5 : Below w.heap.size w w5 := bel_trans vw_4 st5
  have vX0_5 : Below w4.heap.size w4 w5 := st5
  have za1_5 : w.heap.size < w5.heap.size := by omega
  have ea1_0_5 : w5.cell? ⟨w.heap.size, 0, none⟩ = some (.slice A10 (List.length x1.1) c10) := (hb5.cell (by (try simp only [World.size_alloc]); (try dsimp only); omega)).trans ea1_0_4
  have ea1_1_5 : w5.cell? ⟨w.heap.size, 1, none⟩ = some (.slice A11 (List.length x1.2.1) c11) := (hb5.cell (by (try simp only [World.size_alloc]); (try dsimp only); omega)).trans ea1_1_4
  have ea1_2_5 : w5.cell? ⟨w.heap.size, 2, none⟩ = some (.slice A12 (List.length x1.2.2.1) c12) := (hb5.cell (by (try simp only [World.size_alloc]); (try dsimp only); omega)).trans ea1_2_4
  have ea1_3_5 : w5.cell? ⟨w.heap.size, 3, none⟩ = some (.int .i64 x1.2.2.2.1) := (hb5.cell (by (try simp only [World.size_alloc]); (try dsimp only); omega)).trans ea1_3_4
  have ea1_4_5 : w5.cell? ⟨w.heap.size, 4, none⟩ = some (.int .i64 x1.2.2.2.2) := (hb5.cell (by (try simp only [World.size_alloc]); (try dsimp only); omega)).trans ea1_4_4
  clear ea1_0_4 ea1_1_4 ea1_2_4 ea1_3_4 ea1_4_4
  have frX1 : FrI (w4.heap.size + 0) w5.heap.size fp5 := hfr5.mono (by (try simp only [World.size_alloc]); omega) (Nat.le_refl _)
  have vX1_5 : Below w5.heap.size w5 w5 := Below.refl _ _
  go_wp2_with fail
  refine (C_impl_VerifySignature _ _ x0 _ x1 (Ty.ow_rd (Ty.ow_bel (by repeat' (first | (with_reducible exact Below.refl _ _) | (with_reducible assumption) | (with_reducible refine bel_set ?_ (by (try dsimp only); omega) _) | (with_reducible refine bel_alloc ?_ _) | (with_reducible refine bel_drewN ?_ _) | (with_reducible refine bel_drew ?_))) how4)) (Ty.ow_rd (Ty.ow_bel (by repeat' (first | (with_reducible exact Below.refl _ _) | (with_reducible assumption) | (with_reducible refine bel_set ?_ (by (try dsimp only); omega) _) | (with_reducible refine bel_alloc ?_ _) | (with_reducible refine bel_drewN ?_ _) | (with_reducible refine bel_drew ?_))) how5)) s0 s1).mono ?_
  rintro e w6 ⟨rfl, hb6⟩
  have st6 : Below w5.heap.size w5 w6 := bel_trans (by repeat' (first | (with_reducible exact Below.refl _ _) | (with_reducible assumption) | (with_reducible refine bel_set ?_ (by (try dsimp only); omega) _) | (with_reducible refine bel_alloc ?_ _) | (with_reducible refine bel_drewN ?_ _) | (with_reducible refine bel_drew ?_))) hb6
  have zz6 : w5.heap.size + 1 ≤ w6.heap.size := by have := hb6.size; (try simp only [World.size_alloc] at this); omega
  have vw_6 : Below w.heap.size w w6 := bel_trans vw_5 st6
  have vX0_6 : Below w4.heap.size w4 w6 := bel_trans vX0_5 st6
  have vX1_6 : Below w5.heap.size w5 w6 := st6
  have za1_6 : w.heap.size < w6.heap.size := by omega
  have ea1_0_6 : w6.cell? ⟨w.heap.size, 0, none⟩ = some (.slice A10 (List.length x1.1) c10) := (hb6.cell (by (try simp only [World.size_alloc]); (try dsimp only); omega)).trans ((World.cell?_alloc_lt _ _ _ (by (try simp only [World.size_alloc]); (try dsimp only); omega)).trans ea1_0_5)
  have ea1_1_6 : w6.cell? ⟨w.heap.size, 1, none⟩ = some (.slice A11 (List.length x1.2.1) c11) := (hb6.cell (by (try simp only [World.size_alloc]); (try dsimp only); omega)).trans ((World.cell?_alloc_lt _ _ _ (by (try simp only [World.size_alloc]); (try dsimp only); omega)).trans ea1_1_5)
  have ea1_2_6 : w6.cell? ⟨w.heap.size, 2, none⟩ = some (.slice A12 (List.length x1.2.2.1) c12) := (hb6.cell (by (try simp only [World.size_alloc]); (try dsimp only); omega)).trans ((World.cell?_alloc_lt _ _ _ (by (try simp only [World.size_alloc]); (try dsimp only); omega)).trans ea1_2_5)
  have ea1_3_6 : w6.cell? ⟨w.heap.size, 3, none⟩ = some (.int .i64 x1.2.2.2.1) := (hb6.cell (by (try simp only [World.size_alloc]); (try dsimp only); omega)).trans ((World.cell?_alloc_lt _ _ _ (by (try simp only [World.size_alloc]); (try dsimp only); omega)).trans ea1_3_5)
  have ea1_4_6 : w6.cell? ⟨w.heap.size, 4, none⟩ = some (.int .i64 x1.2.2.2.2) := (hb6.cell (by (try simp only [World.size_alloc]); (try dsimp only); omega)).trans ((World.cell?_alloc_lt _ _ _ (by (try simp only [World.size_alloc]); (try dsimp only); omega)).trans ea1_4_5)
  have zx1_6 : w5.heap.size < w6.heap.size := by omega
  have ex1_0_6 : w6.cell? ⟨w5.heap.size, 0, none⟩ = some (.slice A5_0 (List.length x1.1) c5_0) := (hb6.cell (by (try simp only [World.size_alloc]); (try dsimp only); omega)).trans ((cell_new w5 31 #[.slice A5_0 (List.length x1.1) c5_0, .slice A5_1 (List.length x1.2.1) c5_1, .slice A5_2 (List.length x1.2.2.1) c5_2, .int .i64 x1.2.2.2.1, .int .i64 x1.2.2.2.2] 0 (by first | rfl | (simp only [World.size_alloc]))) : _ = some (Value.slice A5_0 (List.length x1.1) c5_0))
  have ex1_1_6 : w6.cell? ⟨w5.heap.size, 1, none⟩ = some (.slice A5_1 (List.length x1.2.1) c5_1) := (hb6.cell (by (try simp only [World.size_alloc]); (try dsimp only); omega)).trans ((cell_new w5 31 #[.slice A5_0 (List.length x1.1) c5_0, .slice A5_1 (List.length x1.2.1) c5_1, .slice A5_2 (List.length x1.2.2.1) c5_2, .int .i64 x1.2.2.2.1, .int .i64 x1.2.2.2.2] 1 (by first | rfl | (simp only [World.size_alloc]))) : _ = some (Value.slice A5_1 (List.length x1.2.1) c5_1))
  have ex1_2_6 : w6.cell? ⟨w5.heap.size, 2, none⟩ = some (.slice A5_2 (List.length x1.2.2.1) c5_2) := (hb6.cell (by (try simp only [World.size_alloc]); (try dsimp only); omega)).trans ((cell_new w5 31 #[.slice A5_0 (List.length x1.1) c5_0, .slice A5_1 (List.length x1.2.1) c5_1, .slice A5_2 (List.length x1.2.2.1) c5_2, .int .i64 x1.2.2.2.1, .int .i64 x1.2.2.2.2] 2 (by first | rfl | (simp only [World.size_alloc]))) : _ = some (Value.slice A5_2 (List.length x1.2.2.1) c5_2))
  have ex1_3_6 : w6.cell? ⟨w5.heap.size, 3, none⟩ = some (.int .i64 x1.2.2.2.1) := (hb6.cell (by (try simp only [World.size_alloc]); (try dsimp only); omega)).trans ((cell_new w5 31 #[.slice A5_0 (List.length x1.1) c5_0, .slice A5_1 (List.length x1.2.1) c5_1, .slice A5_2 (List.length x1.2.2.1) c5_2, .int .i64 x1.2.2.2.1, .int .i64 x1.2.2.2.2] 3 (by first | rfl | (simp only [World.size_alloc]))) : _ = some (Value.int .i64 x1.2.2.2.1))
  have ex1_4_6 : w6.cell? ⟨w5.heap.size, 4, none⟩ = some (.int .i64 x1.2.2.2.2) := (hb6.cell (by (try simp only [World.size_alloc]); (try dsimp only); omega)).trans ((cell_new w5 31 #[.slice A5_0 (List.length x1.1) c5_0, .slice A5_1 (List.length x1.2.1) c5_1, .slice A5_2 (List.length x1.2.2.1) c5_2, .int .i64 x1.2.2.2.1, .int .i64 x1.2.2.2.2] 4 (by first | rfl | (simp only [World.size_alloc]))) : _ = some (Value.int .i64 x1.2.2.2.2))
  clear ea1_0_5 ea1_1_5 ea1_2_5 ea1_3_5 ea1_4_5
  have hq0 : ((f_VerifySignature x0 x1) != (f_VerifySignature x0 x1)) = false := by simp
  go_wp2_with fail
  refine (C_laws_toKeyS _ _ x0 (Ty.rd_below (by repeat' (first | (with_reducible exact Below.refl _ _) | (with_reducible assumption) | (with_reducible refine bel_set ?_ (by (try dsimp only); omega) _) | (with_reducible refine bel_alloc ?_ _) | (with_reducible refine bel_drewN ?_ _) | (with_reducible refine bel_drew ?_))) h0) s0).mono ?_
  rintro e w7 ⟨A7_, c7_, fp7, rfl, how7, hfr7, hb7⟩
  have st7 : Below w6.heap.size w6 w7 := bel_trans (by repeat' (first | (with_reducible exact Below.refl _ _) | (with_reducible assumption) | (with_reducible refine bel_set ?_ (by (try dsimp only); omega) _) | (with_reducible refine bel_alloc ?_ _) | (with_reducible refine bel_drewN ?_ _) | (with_reducible refine bel_drew ?_))) hb7
  have zz7 : w6.heap.size + 0 ≤ w7.heap.size := by have := hb7.size; (try simp only [World.size_alloc] at this); omega
  have vw_7 : Below w.heap.size w w7 := bel_trans vw_6 st7
  have vX0_7 : Below w4.heap.size w4 w7 := bel_trans vX0_6 st7
  have vX1_7 : Below w5.heap.size w5 w7 := bel_trans vX1_6 st7
  have za1_7 : w.heap.size < w7.heap.size := by omega
  have ea1_0_7 : w7.cell? ⟨w.heap.size, 0, none⟩ = some (.slice A10 (List.length x1.1) c10) := (hb7.cell (by (try simp only [World.size_alloc]); (try dsimp only); omega)).trans ea1_0_6
  have ea1_1_7 : w7.cell? ⟨w.heap.size, 1, none⟩ = some (.slice A11 (List.length x1.2.1) c11) := (hb7.cell (by (try simp only [World.size_alloc]); (try dsimp only); omega)).trans ea1_1_6
  have ea1_2_7 : w7.cell? ⟨w.heap.size, 2, none⟩ = some (.slice A12 (List.length x1.2.2.1) c12) := (hb7.cell (by (try simp only [World.size_alloc]); (try dsimp only); omega)).trans ea1_2_6
  have ea1_3_7 : w7.cell? ⟨w.heap.size, 3, none⟩ = some (.int .i64 x1.2.2.2.1) := (hb7.cell (by (try simp only [World.size_alloc]); (try dsimp only); omega)).trans ea1_3_6
  have ea1_4_7 : w7.cell? ⟨w.heap.size, 4, none⟩ = some (.int .i64 x1.2.2.2.2) := (hb7.cell (by (try simp only [World.size_alloc]); (try dsimp only); omega)).trans ea1_4_6
  have zx1_7 : w5.heap.size < w7.heap.size := by omega
  have ex1_0_7 : w7.cell? ⟨w5.heap.size, 0, none⟩ = some (.slice A5_0 (List.length x1.1) c5_0) := (hb7.cell (by (try simp only [World.size_alloc]); (try dsimp only); omega)).trans ex1_0_6
  have ex1_1_7 : w7.cell? ⟨w5.heap.size, 1, none⟩ = some (.slice A5_1 (List.length x1.2.1) c5_1) := (hb7.cell (by (try simp only [World.size_alloc]); (try dsimp only); omega)).trans ex1_1_6
  have ex1_2_7 : w7.cell? ⟨w5.heap.size, 2, none⟩ = some (.slice A5_2 (List.length x1.2.2.1) c5_2) := (hb7.cell (by (try simp only [World.size_alloc]); (try dsimp only); omega)).trans ex1_2_6
  have ex1_3_7 : w7.cell? ⟨w5.heap.size, 3, none⟩ = some (.int .i64 x1.2.2.2.1) := (hb7.cell (by (try simp only [World.size_alloc]); (try dsimp only); omega)).trans ex1_3_6
  have ex1_4_7 : w7.cell? ⟨w5.heap.size, 4, none⟩ = some (.int .i64 x1.2.2.2.2) := (hb7.cell (by (try simp only [World.size_alloc]); (try dsimp only); omega)).trans ex1_4_6
  clear ea1_0_6 ea1_1_6 ea1_2_6 ea1_3_6 ea1_4_6 ex1_0_6 ex1_1_6 ex1_2_6 ex1_3_6 ex1_4_6
  go_wp2_with fail
  refine (C_laws_eqKeyS _ _ _ x0 (Ty.ow_rd (Ty.ow_bel (by repeat' (first | (with_reducible exact Below.refl _ _) | (with_reducible assumption) | (with_reducible refine bel_set ?_ (by (try dsimp only); omega) _) | (with_reducible refine bel_alloc ?_ _) | (with_reducible refine bel_drewN ?_ _) | (with_reducible refine bel_drew ?_))) how4)) (Ty.ow_rd how7)).mono ?_
  rintro e w8 ⟨rfl, hb8⟩
  have st8 : Below w7.heap.size w7 w8 := bel_trans (by repeat' (first | (with_reducible exact Below.refl _ _) | (with_reducible assumption) | (with_reducible refine bel_set ?_ (by (try dsimp only); omega) _) | (with_reducible refine bel_alloc ?_ _) | (with_reducible refine bel_drewN ?_ _) | (with_reducible refine bel_drew ?_))) hb8
  have zz8 : w7.heap.size + 0 ≤ w8.heap.size := by have := hb8.size; (try simp only [World.size_alloc] at this); omega
  have vw_8 : Below w.heap.size w w8 := bel_trans vw_7 st8
  have vX0_8 : Below w4.heap.size w4 w8 := bel_trans vX0_7 st8
  have vX1_8 : Below w5.heap.size w5 w8 := bel_trans vX1_7 st8
  have za1_8 : w.heap.size < w8.heap.size := by omega
  have ea1_0_8 : w8.cell? ⟨w.heap.size, 0, none⟩ = some (.slice A10 (List.length x1.1) c10) := (hb8.cell (by (try simp only [World.size_alloc]); (try dsimp only); omega)).trans ea1_0_7
  have ea1_1_8 : w8.cell? ⟨w.heap.size, 1, none⟩ = some (.slice A11 (List.length x1.2.1) c11) := (hb8.cell (by (try simp only [World.size_alloc]); (try dsimp only); omega)).trans ea1_1_7
  have ea1_2_8 : w8.cell? ⟨w.heap.size, 2, none⟩ = some (.slice A12 (List.length x1.2.2.1) c12) := (hb8.cell (by (try simp only [World.size_alloc]); (try dsimp only); omega)).trans ea1_2_7
  have ea1_3_8 : w8.cell? ⟨w.heap.size, 3, none⟩ = some (.int .i64 x1.2.2.2.1) := (hb8.cell (by (try simp only [World.size_alloc]); (try dsimp only); omega)).trans ea1_3_7
  have ea1_4_8 : w8.cell? ⟨w.heap.size, 4, none⟩ = some (.int .i64 x1.2.2.2.2) := (hb8.cell (by (try simp only [World.size_alloc]); (try dsimp only); omega)).trans ea1_4_7
  have zx1_8 : w5.heap.size < w8.heap.size := by omega
  have ex1_0_8 : w8.cell? ⟨w5.heap.size, 0, none⟩ = some (.slice A5_0 (List.length x1.1) c5_0) := (hb8.cell (by (try simp only [World.size_alloc]); (try dsimp only); omega)).trans ex1_0_7
  have ex1_1_8 : w8.cell? ⟨w5.heap.size, 1, none⟩ = some (.slice A5_1 (List.length x1.2.1) c5_1) := (hb8.cell (by (try simp only [World.size_alloc]); (try dsimp only); omega)).trans ex1_1_7
  have ex1_2_8 : w8.cell? ⟨w5.heap.size, 2, none⟩ = some (.slice A5_2 (List.length x1.2.2.1) c5_2) := (hb8.cell (by (try simp only [World.size_alloc]); (try dsimp only); omega)).trans ex1_2_7
  have ex1_3_8 : w8.cell? ⟨w5.heap.size, 3, none⟩ = some (.int .i64 x1.2.2.2.1) := (hb8.cell (by (try simp only [World.size_alloc]); (try dsimp only); omega)).trans ex1_3_7
  have ex1_4_8 : w8.cell? ⟨w5.heap.size, 4, none⟩ = some (.int .i64 x1.2.2.2.2) := (hb8.cell (by (try simp only [World.size_alloc]); (try dsimp only); omega)).trans ex1_4_7
  clear ea1_0_7 ea1_1_7 ea1_2_7 ea1_3_7 ea1_4_7 ex1_0_7 ex1_1_7 ex1_2_7 ex1_3_7 ex1_4_7
  have HSq1 : Hid (∀ W, Below w8.heap.size w8 W → Below w8.heap.size w8 W ∧ W.cell? ⟨w.heap.size, 0, none⟩ = some (.slice A10 (List.length x1.1) c10) ∧ W.cell? ⟨w.heap.size, 1, none⟩ = some (.slice A11 (List.length x1.2.1) c11) ∧ W.cell? ⟨w.heap.size, 2, none⟩ = some (.slice A12 (List.length x1.2.2.1) c12) ∧ W.cell? ⟨w.heap.size, 3, none⟩ = some (.int .i64 x1.2.2.2.1) ∧ W.cell? ⟨w.heap.size, 4, none⟩ = some (.int .i64 x1.2.2.2.2) ∧ W.cell? ⟨w5.heap.size, 0, none⟩ = some (.slice A5_0 (List.length x1.1) c5_0) ∧ W.cell? ⟨w5.heap.size, 1, none⟩ = some (.slice A5_1 (List.length x1.2.1) c5_1) ∧ W.cell? ⟨w5.heap.size, 2, none⟩ = some (.slice A5_2 (List.length x1.2.2.1) c5_2) ∧ W.cell? ⟨w5.heap.size, 3, none⟩ = some (.int .i64 x1.2.2.2.1) ∧ W.cell? ⟨w5.heap.size, 4, none⟩ = some (.int .i64 x1.2.2.2.2)) := fun W hW => ⟨hW, (hW.cell za1_8).trans ea1_0_8, (hW.cell za1_8).trans ea1_1_8, (hW.cell za1_8).trans ea1_2_8, (hW.cell za1_8).trans ea1_3_8, (hW.cell za1_8).trans ea1_4_8, (hW.cell zx1_8).trans ex1_0_8, (hW.cell zx1_8).trans ex1_1_8, (hW.cell zx1_8).trans ex1_2_8, (hW.cell zx1_8).trans ex1_3_8, (hW.cell zx1_8).trans ex1_4_8⟩
  go_wp2_with fail
  go_region_held3 (fun W => Below w8.heap.size w8 W ∧ W.cell? ⟨w.heap.size, 0, none⟩ = some (.slice A10 (List.length x1.1) c10) ∧ W.cell? ⟨w.heap.size, 1, none⟩ = some (.slice A11 (List.length x1.2.1) c11) ∧ W.cell? ⟨w.heap.size, 2, none⟩ = some (.slice A12 (List.length x1.2.2.1) c12) ∧ W.cell? ⟨w.heap.size, 3, none⟩ = some (.int .i64 x1.2.2.2.1) ∧ W.cell? ⟨w.heap.size, 4, none⟩ = some (.int .i64 x1.2.2.2.2) ∧ W.cell? ⟨w5.heap.size, 0, none⟩ = some (.slice A5_0 (List.length x1.1) c5_0) ∧ W.cell? ⟨w5.heap.size, 1, none⟩ = some (.slice A5_1 (List.length x1.2.1) c5_1) ∧ W.cell? ⟨w5.heap.size, 2, none⟩ = some (.slice A5_2 (List.length x1.2.2.1) c5_2) ∧ W.cell? ⟨w5.heap.size, 3, none⟩ = some (.int .i64 x1.2.2.2.1) ∧ W.cell? ⟨w5.heap.size, 4, none⟩ = some (.int .i64 x1.2.2.2.2)) (exact HSq1.out _ (by repeat' (first | (with_reducible exact Below.refl _ _) | (with_reducible assumption) | (with_reducible refine bel_set ?_ (by (try dsimp only); omega) _) | (with_reducible refine bel_alloc ?_ _) | (with_reducible refine bel_drewN ?_ _) | (with_reducible refine bel_drew ?_))))
    (first
      | (go_at_call 17; (with_reducible refine (C_laws_toData _ _ x1 (Ty.rd_below (by repeat' (first | (with_reducible exact Below.refl _ _) | (with_reducible assumption) | (with_reducible refine bel_set ?_ (by (try dsimp only); omega) _) | (with_reducible refine bel_alloc ?_ _) | (with_reducible refine bel_drewN ?_ _) | (with_reducible refine bel_drew ?_))) h1) s1).mono ?_); rintro e wq ⟨csq, fpq, rfl, howq, hfrq, hbq⟩; have hvq : Below w8.heap.size w8 wq := bel_trans (by repeat' (first | (with_reducible exact Below.refl _ _) | (with_reducible assumption) | (with_reducible refine bel_set ?_ (by (try dsimp only); omega) _) | (with_reducible refine bel_alloc ?_ _) | (with_reducible refine bel_drewN ?_ _) | (with_reducible refine bel_drew ?_))) hbq; have hxq : Below w5.heap.size w5 wq := bel_trans vX1_8 hvq)
      | (go_at_call 19; (with_reducible refine (C_laws_eqData _ _ _ x1 (Ty.rd_below hxq (Ty.ow_rd how5)) (Ty.ow_rd howq)).mono ?_); rintro e w9 ⟨rfl, hb9⟩; have hvz : Below w8.heap.size w8 w9 := bel_trans hvq hb9))
  have st9 : Below w8.heap.size w8 w9 := hvz
  clear hvz
  have zz9 : w8.heap.size ≤ w9.heap.size := st9.size
  have vw_9 : Below w.heap.size w w9 := bel_trans vw_8 st9
  have vX0_9 : Below w4.heap.size w4 w9 := bel_trans vX0_8 st9
  have vX1_9 : Below w5.heap.size w5 w9 := bel_trans vX1_8 st9
  have za1_9 : w.heap.size < w9.heap.size := by omega
  have ea1_0_9 : w9.cell? ⟨w.heap.size, 0, none⟩ = some (.slice A10 (List.length x1.1) c10) := (st9.cell za1_8).trans ea1_0_8
  have ea1_1_9 : w9.cell? ⟨w.heap.size, 1, none⟩ = some (.slice A11 (List.length x1.2.1) c11) := (st9.cell za1_8).trans ea1_1_8
  have ea1_2_9 : w9.cell? ⟨w.heap.size, 2, none⟩ = some (.slice A12 (List.length x1.2.2.1) c12) := (st9.cell za1_8).trans ea1_2_8
  have ea1_3_9 : w9.cell? ⟨w.heap.size, 3, none⟩ = some (.int .i64 x1.2.2.2.1) := (st9.cell za1_8).trans ea1_3_8
  have ea1_4_9 : w9.cell? ⟨w.heap.size, 4, none⟩ = some (.int .i64 x1.2.2.2.2) := (st9.cell za1_8).trans ea1_4_8
  have zx1_9 : w5.heap.size < w9.heap.size := by omega
  have ex1_0_9 : w9.cell? ⟨w5.heap.size, 0, none⟩ = some (.slice A5_0 (List.length x1.1) c5_0) := (st9.cell zx1_8).trans ex1_0_8
  have ex1_1_9 : w9.cell? ⟨w5.heap.size, 1, none⟩ = some (.slice A5_1 (List.length x1.2.1) c5_1) := (st9.cell zx1_8).trans ex1_1_8
  have ex1_2_9 : w9.cell? ⟨w5.heap.size, 2, none⟩ = some (.slice A5_2 (List.length x1.2.2.1) c5_2) := (st9.cell zx1_8).trans ex1_2_8
  have ex1_3_9 : w9.cell? ⟨w5.heap.size, 3, none⟩ = some (.int .i64 x1.2.2.2.1) := (st9.cell zx1_8).trans ex1_3_8
  have ex1_4_9 : w9.cell? ⟨w5.heap.size, 4, none⟩ = some (.int .i64 x1.2.2.2.2) := (st9.cell zx1_8).trans ex1_4_8
  clear ea1_0_8 ea1_1_8 ea1_2_8 ea1_3_8 ea1_4_8 ex1_0_8 ex1_1_8 ex1_2_8 ex1_3_8 ex1_4_8
  go_wp2_with fail
  go_ret
  exact ⟨rfl, vw_9⟩
end Go.Proofs.Ytamodpeeocmneaa
