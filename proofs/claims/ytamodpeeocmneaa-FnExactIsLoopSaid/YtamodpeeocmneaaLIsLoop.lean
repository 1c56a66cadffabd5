/- The law FnExactIsLoop, walked out of the contracts. Printed by a program. -/
import Derived.Test.YtamodpeeocmneaaIlp
import Derived.Deep.RegionHeld3
namespace Go.Proofs.Ytamodpeeocmneaa
open Go.RowKit
set_option linter.unusedVariables false
set_option linter.unusedSimpArgs false

set_option maxRecDepth 100000 in
set_option maxHeartbeats 4000000 in
theorem L_IsLoop (w : World) (v0 : Value) (x0 : Ty.D (.sl tPendingInterest)) (h0 : Ty.rd w (.sl tPendingInterest) [v0] x0) (v1 : Value) (x1 : Ty.D (.sl tSeenNonce)) (h1 : Ty.rd w (.sl tSeenNonce) [v1] x1) (cs2 : List Value) (x2 : Ty.D tInterest) (h2 : Ty.rd w tInterest cs2 x2) :
    Calls Try.prog 14 #[v0, v1, .agg cs2.toArray] w (RetB w true) := by
  obtain ⟨A20, c20, rfl, _, _, _, _⟩ := rd_Interest h2
  go_enter Try.func14, Try.ntmps14
  go_wp2_with fail
  refine (C_laws_szPendingInterestS _ _ x0 1048576 (Ty.rd_below (by repeat' (first | (with_reducible exact Below.refl _ _) | (with_reducible assumption) | (with_reducible refine bel_set ?_ (by (try dsimp only); omega) _) | (with_reducible refine bel_alloc ?_ _) | (with_reducible refine bel_drewN ?_ _) | (with_reducible refine bel_drew ?_))) h0) (by omega) (by omega)).mono ?_
  rintro e w1 ⟨r1, rfl, hr1, hb1⟩
  have st1 : Below w.heap.size w w1 := bel_trans (by repeat' (first | (with_reducible exact Below.refl _ _) | (with_reducible assumption) | (with_reducible refine bel_set ?_ (by (try dsimp only); omega) _) | (with_reducible refine bel_alloc ?_ _) | (with_reducible refine bel_drewN ?_ _) | (with_reducible refine bel_drew ?_))) hb1
  have zz1 : w.heap.size + 1 ≤ w1.heap.size := by have := hb1.size; (try simp only [World.size_alloc] at this); omega
  have vw_1 : Below w.heap.size w w1 := st1
  have za2_1 : w.heap.size < w1.heap.size := by omega
  have ea2_0_1 : w1.cell? ⟨w.heap.size, 0, none⟩ = some (.slice A20 (List.length x2.1) c20) := (hb1.cell (by (try simp only [World.size_alloc]); (try dsimp only); omega)).trans ((cell_new w 84 #[.slice A20 (List.length x2.1) c20, .int .i64 x2.2.1, .int .i64 x2.2.2.1, .int .i64 x2.2.2.2] 0 (by first | rfl | (simp only [World.size_alloc]))) : _ = some (Value.slice A20 (List.length x2.1) c20))
  have ea2_1_1 : w1.cell? ⟨w.heap.size, 1, none⟩ = some (.int .i64 x2.2.1) := (hb1.cell (by (try simp only [World.size_alloc]); (try dsimp only); omega)).trans ((cell_new w 84 #[.slice A20 (List.length x2.1) c20, .int .i64 x2.2.1, .int .i64 x2.2.2.1, .int .i64 x2.2.2.2] 1 (by first | rfl | (simp only [World.size_alloc]))) : _ = some (Value.int .i64 x2.2.1))
  have ea2_2_1 : w1.cell? ⟨w.heap.size, 2, none⟩ = some (.int .i64 x2.2.2.1) := (hb1.cell (by (try simp only [World.size_alloc]); (try dsimp only); omega)).trans ((cell_new w 84 #[.slice A20 (List.length x2.1) c20, .int .i64 x2.2.1, .int .i64 x2.2.2.1, .int .i64 x2.2.2.2] 2 (by first | rfl | (simp only [World.size_alloc]))) : _ = some (Value.int .i64 x2.2.2.1))
  have ea2_3_1 : w1.cell? ⟨w.heap.size, 3, none⟩ = some (.int .i64 x2.2.2.2) := (hb1.cell (by (try simp only [World.size_alloc]); (try dsimp only); omega)).trans ((cell_new w 84 #[.slice A20 (List.length x2.1) c20, .int .i64 x2.2.1, .int .i64 x2.2.2.1, .int .i64 x2.2.2.2] 3 (by first | rfl | (simp only [World.size_alloc]))) : _ = some (Value.int .i64 x2.2.2.2))
  rcases hr1 with rfl | ⟨p1, q1⟩
  · go_wp2
    go_ret
    exact ⟨rfl, vw_1⟩
  go_wp2_with fail
  refine (C_laws_szSeenNonceS _ _ x1 r1 (Ty.rd_below (by repeat' (first | (with_reducible exact Below.refl _ _) | (with_reducible assumption) | (with_reducible refine bel_set ?_ (by (try dsimp only); omega) _) | (with_reducible refine bel_alloc ?_ _) | (with_reducible refine bel_drewN ?_ _) | (with_reducible refine bel_drew ?_))) h1) p1 (by omega)).mono ?_
  rintro e w2 ⟨r2, rfl, hr2, hb2⟩
  have st2 : Below w1.heap.size w1 w2 := bel_trans (by repeat' (first | (with_reducible exact Below.refl _ _) | (with_reducible assumption) | (with_reducible refine bel_set ?_ (by (try dsimp only); omega) _) | (with_reducible refine bel_alloc ?_ _) | (with_reducible refine bel_drewN ?_ _) | (with_reducible refine bel_drew ?_))) hb2
  have zz2 : w1.heap.size + 0 ≤ w2.heap.size := by have := hb2.size; (try simp only [World.size_alloc] at this); omega
  have vw_2 : Below w.heap.size w w2 := bel_trans vw_1 st2
  have za2_2 : w.heap.size < w2.heap.size := by omega
  have ea2_0_2 : w2.cell? ⟨w.heap.size, 0, none⟩ = some (.slice A20 (List.length x2.1) c20) := (hb2.cell (by (try simp only [World.size_alloc]); (try dsimp only); omega)).trans ea2_0_1
  have ea2_1_2 : w2.cell? ⟨w.heap.size, 1, none⟩ = some (.int .i64 x2.2.1) := (hb2.cell (by (try simp only [World.size_alloc]); (try dsimp only); omega)).trans ea2_1_1
  have ea2_2_2 : w2.cell? ⟨w.heap.size, 2, none⟩ = some (.int .i64 x2.2.2.1) := (hb2.cell (by (try simp only [World.size_alloc]); (try dsimp only); omega)).trans ea2_2_1
  have ea2_3_2 : w2.cell? ⟨w.heap.size, 3, none⟩ = some (.int .i64 x2.2.2.2) := (hb2.cell (by (try simp only [World.size_alloc]); (try dsimp only); omega)).trans ea2_3_1
  clear ea2_0_1 ea2_1_1 ea2_2_1 ea2_3_1
  rcases hr2 with rfl | ⟨p2, q2⟩
  · go_wp2
    go_ret
    exact ⟨rfl, vw_2⟩
  go_wp2_with fail
  refine (C_laws_szInterest _ _ x2 r2 (Ty.rd_below (by repeat' (first | (with_reducible exact Below.refl _ _) | (with_reducible assumption) | (with_reducible refine bel_set ?_ (by (try dsimp only); omega) _) | (with_reducible refine bel_alloc ?_ _) | (with_reducible refine bel_drewN ?_ _) | (with_reducible refine bel_drew ?_))) h2) p2 (by omega)).mono ?_
  rintro e w3 ⟨r3, rfl, hr3, hb3⟩
  have st3 : Below w2.heap.size w2 w3 := bel_trans (by repeat' (first | (with_reducible exact Below.refl _ _) | (with_reducible assumption) | (with_reducible refine bel_set ?_ (by (try dsimp only); omega) _) | (with_reducible refine bel_alloc ?_ _) | (with_reducible refine bel_drewN ?_ _) | (with_reducible refine bel_drew ?_))) hb3
  have zz3 : w2.heap.size + 0 ≤ w3.heap.size := by have := hb3.size; (try simp only [World.size_alloc] at this); omega
  have vw_3 : Below w.heap.size w w3 := bel_trans vw_2 st3
  have za2_3 : w.heap.size < w3.heap.size := by omega
  have ea2_0_3 : w3.cell? ⟨w.heap.size, 0, none⟩ = some (.slice A20 (List.length x2.1) c20) := (hb3.cell (by (try simp only [World.size_alloc]); (try dsimp only); omega)).trans ea2_0_2
  have ea2_1_3 : w3.cell? ⟨w.heap.size, 1, none⟩ = some (.int .i64 x2.2.1) := (hb3.cell (by (try simp only [World.size_alloc]); (try dsimp only); omega)).trans ea2_1_2
  have ea2_2_3 : w3.cell? ⟨w.heap.size, 2, none⟩ = some (.int .i64 x2.2.2.1) := (hb3.cell (by (try simp only [World.size_alloc]); (try dsimp only); omega)).trans ea2_2_2
  have ea2_3_3 : w3.cell? ⟨w.heap.size, 3, none⟩ = some (.int .i64 x2.2.2.2) := (hb3.cell (by (try simp only [World.size_alloc]); (try dsimp only); omega)).trans ea2_3_2
  clear ea2_0_2 ea2_1_2 ea2_2_2 ea2_3_2
  rcases hr3 with rfl | ⟨p3, q3⟩
  · go_wp2
    go_ret
    exact ⟨rfl, vw_3⟩
  have s0 : Ty.bulk (.sl tPendingInterest) x0 ≤ 1048576 := by omega
  have s1 : Ty.bulk (.sl tSeenNonce) x1 ≤ 1048576 := by omega
  have s2 : Ty.bulk tInterest x2 ≤ 1048576 := by omega
  have HSp : Hid (∀ W, Below w3.heap.size w3 W → Below w3.heap.size w3 W ∧ W.cell? ⟨w.heap.size, 0, none⟩ = some (.slice A20 (List.length x2.1) c20) ∧ W.cell? ⟨w.heap.size, 1, none⟩ = some (.int .i64 x2.2.1) ∧ W.cell? ⟨w.heap.size, 2, none⟩ = some (.int .i64 x2.2.2.1) ∧ W.cell? ⟨w.heap.size, 3, none⟩ = some (.int .i64 x2.2.2.2)) := fun W hW => ⟨hW, (hW.cell za2_3).trans ea2_0_3, (hW.cell za2_3).trans ea2_1_3, (hW.cell za2_3).trans ea2_2_3, (hW.cell za2_3).trans ea2_3_3⟩
  have hvp : Below w3.heap.size w3 w3 := Below.refl _ _
  go_wp2_with fail
  go_region_held3 (fun W => Below w3.heap.size w3 W ∧ W.cell? ⟨w.heap.size, 0, none⟩ = some (.slice A20 (List.length x2.1) c20) ∧ W.cell? ⟨w.heap.size, 1, none⟩ = some (.int .i64 x2.2.1) ∧ W.cell? ⟨w.heap.size, 2, none⟩ = some (.int .i64 x2.2.2.1) ∧ W.cell? ⟨w.heap.size, 3, none⟩ = some (.int .i64 x2.2.2.2)) (exact HSp.out _ (by repeat' (first | (with_reducible exact Below.refl _ _) | (with_reducible assumption) | (with_reducible refine bel_set ?_ (by (try dsimp only); omega) _) | (with_reducible refine bel_alloc ?_ _) | (with_reducible refine bel_drewN ?_ _) | (with_reducible refine bel_drew ?_))))
    (first
      | (go_at_call 53; (with_reducible refine (C_laws_toPendingInterestS _ _ x0 (Ty.rd_below (by repeat' (first | (with_reducible exact Below.refl _ _) | (with_reducible assumption) | (with_reducible refine bel_set ?_ (by (try dsimp only); omega) _) | (with_reducible refine bel_alloc ?_ _) | (with_reducible refine bel_drewN ?_ _) | (with_reducible refine bel_drew ?_))) h0) s0).mono ?_); rintro e wp0 ⟨Ap0, cp0, fpp0, rfl, howp0, hfrp0, hbp0⟩; have hvp0 : Below w3.heap.size w3 wp0 := bel_trans (by repeat' (first | (with_reducible exact Below.refl _ _) | (with_reducible assumption) | (with_reducible refine bel_set ?_ (by (try dsimp only); omega) _) | (with_reducible refine bel_alloc ?_ _) | (with_reducible refine bel_drewN ?_ _) | (with_reducible refine bel_drew ?_))) hbp0; have vwp0 : Below w.heap.size w wp0 := bel_trans (by repeat' (first | (with_reducible exact Below.refl _ _) | (with_reducible assumption) | (with_reducible refine bel_set ?_ (by (try dsimp only); omega) _) | (with_reducible refine bel_alloc ?_ _) | (with_reducible refine bel_drewN ?_ _) | (with_reducible refine bel_drew ?_))) hbp0)
      | (go_at_call 46; (with_reducible refine (C_laws_toSeenNonceS _ _ x1 (Ty.rd_below (by repeat' (first | (with_reducible exact Below.refl _ _) | (with_reducible assumption) | (with_reducible refine bel_set ?_ (by (try dsimp only); omega) _) | (with_reducible refine bel_alloc ?_ _) | (with_reducible refine bel_drewN ?_ _) | (with_reducible refine bel_drew ?_))) h1) s1).mono ?_); rintro e wp1 ⟨Ap1, cp1, fpp1, rfl, howp1, hfrp1, hbp1⟩; have hvp1 : Below w3.heap.size w3 wp1 := bel_trans (by repeat' (first | (with_reducible exact Below.refl _ _) | (with_reducible assumption) | (with_reducible refine bel_set ?_ (by (try dsimp only); omega) _) | (with_reducible refine bel_alloc ?_ _) | (with_reducible refine bel_drewN ?_ _) | (with_reducible refine bel_drew ?_))) hbp1; have vwp1 : Below w.heap.size w wp1 := bel_trans (by repeat' (first | (with_reducible exact Below.refl _ _) | (with_reducible assumption) | (with_reducible refine bel_set ?_ (by (try dsimp only); omega) _) | (with_reducible refine bel_alloc ?_ _) | (with_reducible refine bel_drewN ?_ _) | (with_reducible refine bel_drew ?_))) hbp1; have yp0_p1 : Below wp0.heap.size wp0 wp1 := bel_trans (by repeat' (first | (with_reducible exact Below.refl _ _) | (with_reducible assumption) | (with_reducible refine bel_set ?_ (by (try dsimp only); omega) _) | (with_reducible refine bel_alloc ?_ _) | (with_reducible refine bel_drewN ?_ _) | (with_reducible refine bel_drew ?_))) hbp1)
      | (go_at_call 68; (with_reducible refine (C_laws_toInterest _ _ x2 (Ty.rd_below (by repeat' (first | (with_reducible exact Below.refl _ _) | (with_reducible assumption) | (with_reducible refine bel_set ?_ (by (try dsimp only); omega) _) | (with_reducible refine bel_alloc ?_ _) | (with_reducible refine bel_drewN ?_ _) | (with_reducible refine bel_drew ?_))) h2) s2).mono ?_); rintro e wp2 ⟨csp2, fpp2, rfl, howp2, hfrp2, hbp2⟩; have hvp2 : Below w3.heap.size w3 wp2 := bel_trans (by repeat' (first | (with_reducible exact Below.refl _ _) | (with_reducible assumption) | (with_reducible refine bel_set ?_ (by (try dsimp only); omega) _) | (with_reducible refine bel_alloc ?_ _) | (with_reducible refine bel_drewN ?_ _) | (with_reducible refine bel_drew ?_))) hbp2; have vwp2 : Below w.heap.size w wp2 := bel_trans (by repeat' (first | (with_reducible exact Below.refl _ _) | (with_reducible assumption) | (with_reducible refine bel_set ?_ (by (try dsimp only); omega) _) | (with_reducible refine bel_alloc ?_ _) | (with_reducible refine bel_drewN ?_ _) | (with_reducible refine bel_drew ?_))) hbp2; have yp1_p2 : Below wp1.heap.size wp1 wp2 := bel_trans (by repeat' (first | (with_reducible exact Below.refl _ _) | (with_reducible assumption) | (with_reducible refine bel_set ?_ (by (try dsimp only); omega) _) | (with_reducible refine bel_alloc ?_ _) | (with_reducible refine bel_drewN ?_ _) | (with_reducible refine bel_drew ?_))) hbp2; have yp0_p2 : Below wp0.heap.size wp0 wp2 := bel_trans yp0_p1 yp1_p2)
      | (go_at_call 67; (with_reducible refine (C_spec_IsLoop _ _ x0 _ x1 _ x2 (Ty.rd_below (by repeat' (first | (with_reducible exact Below.refl _ _) | (with_reducible assumption) | (with_reducible refine bel_set ?_ (by (try dsimp only); omega) _) | (with_reducible refine bel_alloc ?_ _) | (with_reducible refine bel_drewN ?_ _) | (with_reducible refine bel_drew ?_))) (Ty.ow_rd howp0)) (Ty.rd_below (by repeat' (first | (with_reducible exact Below.refl _ _) | (with_reducible assumption) | (with_reducible refine bel_set ?_ (by (try dsimp only); omega) _) | (with_reducible refine bel_alloc ?_ _) | (with_reducible refine bel_drewN ?_ _) | (with_reducible refine bel_drew ?_))) (Ty.ow_rd howp1)) (Ty.rd_below (by repeat' (first | (with_reducible exact Below.refl _ _) | (with_reducible assumption) | (with_reducible refine bel_set ?_ (by (try dsimp only); omega) _) | (with_reducible refine bel_alloc ?_ _) | (with_reducible refine bel_drewN ?_ _) | (with_reducible refine bel_drew ?_))) (Ty.ow_rd howp2)) s0 s1 s2).mono ?_); rintro e w4 ⟨rfl, hb4⟩; have hvpz : Below w3.heap.size w3 w4 := bel_trans (by repeat' (first | (with_reducible exact Below.refl _ _) | (with_reducible assumption) | (with_reducible refine bel_set ?_ (by (try dsimp only); omega) _) | (with_reducible refine bel_alloc ?_ _) | (with_reducible refine bel_drewN ?_ _) | (with_reducible refine bel_drew ?_))) hb4))
  have st4 : Below w3.heap.size w3 w4 := hvpz
  have zz4 : w3.heap.size ≤ w4.heap.size := st4.size
  have vw_4 : Below w.heap.size w w4 := bel_trans vw_3 st4
  have za2_4 : w.heap.size < w4.heap.size := by omega
  have ea2_0_4 : w4.cell? ⟨w.heap.size, 0, none⟩ = some (.slice A20 (List.length x2.1) c20) := (st4.cell za2_3).trans ea2_0_3
  have ea2_1_4 : w4.cell? ⟨w.heap.size, 1, none⟩ = some (.int .i64 x2.2.1) := (st4.cell za2_3).trans ea2_1_3
  have ea2_2_4 : w4.cell? ⟨w.heap.size, 2, none⟩ = some (.int .i64 x2.2.2.1) := (st4.cell za2_3).trans ea2_2_3
  have ea2_3_4 : w4.cell? ⟨w.heap.size, 3, none⟩ = some (.int .i64 x2.2.2.2) := (st4.cell za2_3).trans ea2_3_3
  clear ea2_0_3 ea2_1_3 ea2_2_3 ea2_3_3
  go_wp2_with fail
  refine (C_laws_toPendingInterestS _ _ x0 (Ty.rd_below (by repeat' (first | (with_reducible exact Below.refl _ _) | (with_reducible assumption) | (with_reducible refine bel_set ?_ (by (try dsimp only); omega) _) | (with_reducible refine bel_alloc ?_ _) | (with_reducible refine bel_drewN ?_ _) | (with_reducible refine bel_drew ?_))) h0) s0).mono ?_
  rintro e w5 ⟨A5_, c5_, fp5, rfl, how5, hfr5, hb5⟩
  have st5 : Below w4.heap.size w4 w5 := bel_trans (by repeat' (first | (with_reducible exact Below.refl _ _) | (with_reducible assumption) | (with_reducible refine bel_set ?_ (by (try dsimp only); omega) _) | (with_reducible refine bel_alloc ?_ _) | (with_reducible refine bel_drewN ?_ _) | (with_reducible refine bel_drew ?_))) hb5
  have zz5 : w4.heap.size + 0 ≤ w5.heap.size := by have := hb5.size; (try simp only [World.size_alloc] at this); omega
  have vw_5 : Below w.heap.size w w5 := bel_trans vw_4 st5
  have za2_5 : w.heap.size < w5.heap.size := by omega
  have ea2_0_5 : w5.cell? ⟨w.heap.size, 0, none⟩ = some (.slice A20 (List.length x2.1) c20) := (hb5.cell (by (try simp only [World.size_alloc]); (try dsimp only); omega)).trans ea2_0_4
  have ea2_1_5 : w5.cell? ⟨w.heap.size, 1, none⟩ = some (.int .i64 x2.2.1) := (hb5.cell (by (try simp only [World.size_alloc]); (try dsimp only); omega)).trans ea2_1_4
  have ea2_2_5 : w5.cell? ⟨w.heap.size, 2, none⟩ = some (.int .i64 x2.2.2.1) := (hb5.cell (by (try simp only [World.size_alloc]); (try dsimp only); omega)).trans ea2_2_4
  have ea2_3_5 : w5.cell? ⟨w.heap.size, 3, none⟩ = some (.int .i64 x2.2.2.2) := (hb5.cell (by (try simp only [World.size_alloc]); (try dsimp only); omega)).trans ea2_3_4
  clear ea2_0_4 ea2_1_4 ea2_2_4 ea2_3_4
  have frX0 : FrI (w4.heap.size + 0) w5.heap.size fp5 := hfr5.mono (by (try simp only [World.size_alloc]); omega) (Nat.le_refl _)
  have vX0_5 : Below w5.heap.size w5 w5 := Below.refl _ _
  go_wp2_with fail
  refine (C_laws_toSeenNonceS _ _ x1 (Ty.rd_below (by repeat' (first | (with_reducible exact Below.refl _ _) | (with_reducible assumption) | (with_reducible refine bel_set ?_ (by (try dsimp only); omega) _) | (with_reducible refine bel_alloc ?_ _) | (with_reducible refine bel_drewN ?_ _) | (with_reducible refine bel_drew ?_))) h1) s1).mono ?_
  rintro e w6 ⟨A6_, c6_, fp6, rfl, how6, hfr6, hb6⟩
  have st6 : Below w5.heap.size w5 w6 := bel_trans (by repeat' (first | (with_reducible exact Below.refl _ _) | (with_reducible assumption) | (with_reducible refine bel_set ?_ (by (try dsimp only); omega) _) | (with_reducible refine bel_alloc ?_ _) | (with_reducible refine bel_drewN ?_ _) | (with_reducible refine bel_drew ?_))) hb6
  have zz6 : w5.heap.size + 0 ≤ w6.heap.size := by have := hb6.size; (try simp only [World.size_alloc] at this); omega
  have vw_6 : Below w.heap.size w w6 := bel_trans vw_5 st6
  have vX0_6 : Below w5.heap.size w5 w6 := st6
  have za2_6 : w.heap.size < w6.heap.size := by omega
  have ea2_0_6 : w6.cell? ⟨w.heap.size, 0, none⟩ = some (.slice A20 (List.length x2.1) c20) := (hb6.cell (by (try simp only [World.size_alloc]); (try dsimp only); omega)).trans ea2_0_5
  have ea2_1_6 : w6.cell? ⟨w.heap.size, 1, none⟩ = some (.int .i64 x2.2.1) := (hb6.cell (by (try simp only [World.size_alloc]); (try dsimp only); omega)).trans ea2_1_5
  have ea2_2_6 : w6.cell? ⟨w.heap.size, 2, none⟩ = some (.int .i64 x2.2.2.1) := (hb6.cell (by (try simp only [World.size_alloc]); (try dsimp only); omega)).trans ea2_2_5
  have ea2_3_6 : w6.cell? ⟨w.heap.size, 3, none⟩ = some (.int .i64 x2.2.2.2) := (hb6.cell (by (try simp only [World.size_alloc]); (try dsimp only); omega)).trans ea2_3_5
  clear ea2_0_5 ea2_1_5 ea2_2_5 ea2_3_5
  have frX1 : FrI (w5.heap.size + 0) w6.heap.size fp6 := hfr6.mono (by (try simp only [World.size_alloc]); omega) (Nat.le_refl _)
  have vX1_6 : Below w6.heap.size w6 w6 := Below.refl _ _
  go_wp2_with fail
  refine (C_laws_toInterest _ _ x2 (Ty.rd_below (by repeat' (first | (with_reducible exact Below.refl _ _) | (with_reducible assumption) | (with_reducible refine bel_set ?_ (by (try dsimp only); omega) _) | (with_reducible refine bel_alloc ?_ _) | (with_reducible refine bel_drewN ?_ _) | (with_reducible refine bel_drew ?_))) h2) s2).mono ?_
  rintro e w7 ⟨cs7_, fp7, rfl, how7, hfr7, hb7⟩
  obtain ⟨A7_0, c7_0, rfl⟩ := ow_Interest how7
  have st7 : Below w6.heap.size w6 w7 := bel_trans (by repeat' (first | (with_reducible exact Below.refl _ _) | (with_reducible assumption) | (with_reducible refine bel_set ?_ (by (try dsimp only); omega) _) | (with_reducible refine bel_alloc ?_ _) | (with_reducible refine bel_drewN ?_ _) | (with_reducible refine bel_drew ?_))) hb7
  have zz7 : w6.heap.size + 0 ≤ w7.heap.size := by have := hb7.size; (try simp only [World.size_alloc] at this); omega
  have vw_7 : Below w.heap.size w w7 := bel_trans vw_6 st7
  have vX0_7 : Below w5.heap.size w5 w7 := bel_trans vX0_6 st7
  have vX1_7 : Below w6.heap.size w6 w7 := st7
  have za2_7 : w.heap.size < w7.heap.size := by omega
  have ea2_0_7 : w7.cell? ⟨w.heap.size, 0, none⟩ = some (.slice A20 (List.length x2.1) c20) := (hb7.cell (by (try simp only [World.size_alloc]); (try dsimp only); omega)).trans ea2_0_6
  have ea2_1_7 : w7.cell? ⟨w.heap.size, 1, none⟩ = some (.int .i64 x2.2.1) := (hb7.cell (by (try simp only [World.size_alloc]); (try dsimp only); omega)).trans ea2_1_6
  have ea2_2_7 : w7.cell? ⟨w.heap.size, 2, none⟩ = some (.int .i64 x2.2.2.1) := (hb7.cell (by (try simp only [World.size_alloc]); (try dsimp only); omega)).trans ea2_2_6
  have ea2_3_7 : w7.cell? ⟨w.heap.size, 3, none⟩ = some (.int .i64 x2.2.2.2) := (hb7.cell (by (try simp only [World.size_alloc]); (try dsimp only); omega)).trans ea2_3_6
  clear ea2_0_6 ea2_1_6 ea2_2_6 ea2_3_6
  have frX2 : FrI (w6.heap.size + 0) w7.heap.size fp7 := hfr7.mono (by (try simp only [World.size_alloc]); omega) (Nat.le_refl _)
  have vX2_7 : Below w7.heap.size w7 w7 := Below.refl _ _
  go_wp2_with fail
  refine (C_impl_IsLoop _ _ x0 _ x1 _ x2 (Ty.ow_rd (Ty.ow_bel (by repeat' (first | (with_reducible exact Below.refl _ _) | (with_reducible assumption) | (with_reducible refine bel_set ?_ (by (try dsimp only); omega) _) | (with_reducible refine bel_alloc ?_ _) | (with_reducible refine bel_drewN ?_ _) | (with_reducible refine bel_drew ?_))) how5)) (Ty.ow_rd (Ty.ow_bel (by repeat' (first | (with_reducible exact Below.refl _ _) | (with_reducible assumption) | (with_reducible refine bel_set ?_ (by (try dsimp only); omega) _) | (with_reducible refine bel_alloc ?_ _) | (with_reducible refine bel_drewN ?_ _) | (with_reducible refine bel_drew ?_))) how6)) (Ty.ow_rd (Ty.ow_bel (by repeat' (first | (with_reducible exact Below.refl _ _) | (with_reducible assumption) | (with_reducible refine bel_set ?_ (by (try dsimp only); omega) _) | (with_reducible refine bel_alloc ?_ _) | (with_reducible refine bel_drewN ?_ _) | (with_reducible refine bel_drew ?_))) how7)) s0 s1 s2).mono ?_
  rintro e w8 ⟨rfl, hb8⟩
  have st8 : Below w7.heap.size w7 w8 := bel_trans (by repeat' (first | (with_reducible exact Below.refl _ _) | (with_reducible assumption) | (with_reducible refine bel_set ?_ (by (try dsimp only); omega) _) | (with_reducible refine bel_alloc ?_ _) | (with_reducible refine bel_drewN ?_ _) | (with_reducible refine bel_drew ?_))) hb8
  have zz8 : w7.heap.size + 1 ≤ w8.heap.size := by have := hb8.size; (try simp only [World.size_alloc] at this); omega
  have vw_8 : Below w.heap.size w w8 := bel_trans vw_7 st8
  have vX0_8 : Below w5.heap.size w5 w8 := bel_trans vX0_7 st8
  have vX1_8 : Below w6.heap.size w6 w8 := bel_trans vX1_7 st8
  have vX2_8 : Below w7.heap.size w7 w8 := st8
  have za2_8 : w.heap.size < w8.heap.size := by omega
  have ea2_0_8 : w8.cell? ⟨w.heap.size, 0, none⟩ = some (.slice A20 (List.length x2.1) c20) := (hb8.cell (by (try simp only [World.size_alloc]); (try dsimp only); omega)).trans ((World.cell?_alloc_lt _ _ _ (by (try simp only [World.size_alloc]); (try dsimp only); omega)).trans ea2_0_7)
  have ea2_1_8 : w8.cell? ⟨w.heap.size, 1, none⟩ = some (.int .i64 x2.2.1) := (hb8.cell (by (try simp only [World.size_alloc]); (try dsimp only); omega)).trans ((World.cell?_alloc_lt _ _ _ (by (try simp only [World.size_alloc]); (try dsimp only); omega)).trans ea2_1_7)
  have ea2_2_8 : w8.cell? ⟨w.heap.size, 2, none⟩ = some (.int .i64 x2.2.2.1) := (hb8.cell (by (try simp only [World.size_alloc]); (try dsimp only); omega)).trans ((World.cell?_alloc_lt _ _ _ (by (try simp only [World.size_alloc]); (try dsimp only); omega)).trans ea2_2_7)
  have ea2_3_8 : w8.cell? ⟨w.heap.size, 3, none⟩ = some (.int .i64 x2.2.2.2) := (hb8.cell (by (try simp only [World.size_alloc]); (try dsimp only); omega)).trans ((World.cell?_alloc_lt _ _ _ (by (try simp only [World.size_alloc]); (try dsimp only); omega)).trans ea2_3_7)
  have zx2_8 : w7.heap.size < w8.heap.size := by omega
  have ex2_0_8 : w8.cell? ⟨w7.heap.size, 0, none⟩ = some (.slice A7_0 (List.length x2.1) c7_0) := (hb8.cell (by (try simp only [World.size_alloc]); (try dsimp only); omega)).trans ((cell_new w7 88 #[.slice A7_0 (List.length x2.1) c7_0, .int .i64 x2.2.1, .int .i64 x2.2.2.1, .int .i64 x2.2.2.2] 0 (by first | rfl | (simp only [World.size_alloc]))) : _ = some (Value.slice A7_0 (List.length x2.1) c7_0))
  have ex2_1_8 : w8.cell? ⟨w7.heap.size, 1, none⟩ = some (.int .i64 x2.2.1) := (hb8.cell (by (try simp only [World.size_alloc]); (try dsimp only); omega)).trans ((cell_new w7 88 #[.slice A7_0 (List.length x2.1) c7_0, .int .i64 x2.2.1, .int .i64 x2.2.2.1, .int .i64 x2.2.2.2] 1 (by first | rfl | (simp only [World.size_alloc]))) : _ = some (Value.int .i64 x2.2.1))
  have ex2_2_8 : w8.cell? ⟨w7.heap.size, 2, none⟩ = some (.int .i64 x2.2.2.1) := (hb8.cell (by (try simp only [World.size_alloc]); (try dsimp only); omega)).trans ((cell_new w7 88 #[.slice A7_0 (List.length x2.1) c7_0, .int .i64 x2.2.1, .int .i64 x2.2.2.1, .int .i64 x2.2.2.2] 2 (by first | rfl | (simp only [World.size_alloc]))) : _ = some (Value.int .i64 x2.2.2.1))
  have ex2_3_8 : w8.cell? ⟨w7.heap.size, 3, none⟩ = some (.int .i64 x2.2.2.2) := (hb8.cell (by (try simp only [World.size_alloc]); (try dsimp only); omega)).trans ((cell_new w7 88 #[.slice A7_0 (List.length x2.1) c7_0, .int .i64 x2.2.1, .int .i64 x2.2.2.1, .int .i64 x2.2.2.2] 3 (by first | rfl | (simp only [World.size_alloc]))) : _ = some (Value.int .i64 x2.2.2.2))
  clear ea2_0_7 ea2_1_7 ea2_2_7 ea2_3_7
  have hq0 : ((f_IsLoop x0 x1 x2) != (f_IsLoop x0 x1 x2)) = false := by simp
  go_wp2_with fail
  refine (C_laws_toPendingInterestS _ _ x0 (Ty.rd_below (by repeat' (first | (with_reducible exact Below.refl _ _) | (with_reducible assumption) | (with_reducible refine bel_set ?_ (by (try dsimp only); omega) _) | (with_reducible refine bel_alloc ?_ _) | (with_reducible refine bel_drewN ?_ _) | (with_reducible refine bel_drew ?_))) h0) s0).mono ?_
  rintro e w9 ⟨A9_, c9_, fp9, rfl, how9, hfr9, hb9⟩
  have st9 : Below w8.heap.size w8 w9 := bel_trans (by repeat' (first | (with_reducible exact Below.refl _ _) | (with_reducible assumption) | (with_reducible refine bel_set ?_ (by (try dsimp only); omega) _) | (with_reducible refine bel_alloc ?_ _) | (with_reducible refine bel_drewN ?_ _) | (with_reducible refine bel_drew ?_))) hb9
  have zz9 : w8.heap.size + 0 ≤ w9.heap.size := by have := hb9.size; (try simp only [World.size_alloc] at this); omega
  have vw_9 : Below w.heap.size w w9 := bel_trans vw_8 st9
  have vX0_9 : Below w5.heap.size w5 w9 := bel_trans vX0_8 st9
  have vX1_9 : Below w6.heap.size w6 w9 := bel_trans vX1_8 st9
  have vX2_9 : Below w7.heap.size w7 w9 := bel_trans vX2_8 st9
  have za2_9 : w.heap.size < w9.heap.size := by omega
  have ea2_0_9 : w9.cell? ⟨w.heap.size, 0, none⟩ = some (.slice A20 (List.length x2.1) c20) := (hb9.cell (by (try simp only [World.size_alloc]); (try dsimp only); omega)).trans ea2_0_8
  have ea2_1_9 : w9.cell? ⟨w.heap.size, 1, none⟩ = some (.int .i64 x2.2.1) := (hb9.cell (by (try simp only [World.size_alloc]); (try dsimp only); omega)).trans ea2_1_8
  have ea2_2_9 : w9.cell? ⟨w.heap.size, 2, none⟩ = some (.int .i64 x2.2.2.1) := (hb9.cell (by (try simp only [World.size_alloc]); (try dsimp only); omega)).trans ea2_2_8
  have ea2_3_9 : w9.cell? ⟨w.heap.size, 3, none⟩ = some (.int .i64 x2.2.2.2) := (hb9.cell (by (try simp only [World.size_alloc]); (try dsimp only); omega)).trans ea2_3_8
  have zx2_9 : w7.heap.size < w9.heap.size := by omega
  have ex2_0_9 : w9.cell? ⟨w7.heap.size, 0, none⟩ = some (.slice A7_0 (List.length x2.1) c7_0) := (hb9.cell (by (try simp only [World.size_alloc]); (try dsimp only); omega)).trans ex2_0_8
  have ex2_1_9 : w9.cell? ⟨w7.heap.size, 1, none⟩ = some (.int .i64 x2.2.1) := (hb9.cell (by (try simp only [World.size_alloc]); (try dsimp only); omega)).trans ex2_1_8
  have ex2_2_9 : w9.cell? ⟨w7.heap.size, 2, none⟩ = some (.int .i64 x2.2.2.1) := (hb9.cell (by (try simp only [World.size_alloc]); (try dsimp only); omega)).trans ex2_2_8
  have ex2_3_9 : w9.cell? ⟨w7.heap.size, 3, none⟩ = some (.int .i64 x2.2.2.2) := (hb9.cell (by (try simp only [World.size_alloc]); (try dsimp only); omega)).trans ex2_3_8
  clear ea2_0_8 ea2_1_8 ea2_2_8 ea2_3_8 ex2_0_8 ex2_1_8 ex2_2_8 ex2_3_8
  go_wp2_with fail
  refine (C_laws_eqPendingInterestS _ _ _ x0 (Ty.ow_rd (Ty.ow_bel (by repeat' (first | (with_reducible exact Below.refl _ _) | (with_reducible assumption) | (with_reducible refine bel_set ?_ (by (try dsimp only); omega) _) | (with_reducible refine bel_alloc ?_ _) | (with_reducible refine bel_drewN ?_ _) | (with_reducible refine bel_drew ?_))) how5)) (Ty.ow_rd how9)).mono ?_
  rintro e w10 ⟨rfl, hb10⟩
  have st10 : Below w9.heap.size w9 w10 := bel_trans (by repeat' (first | (with_reducible exact Below.refl _ _) | (with_reducible assumption) | (with_reducible refine bel_set ?_ (by (try dsimp only); omega) _) | (with_reducible refine bel_alloc ?_ _) | (with_reducible refine bel_drewN ?_ _) | (with_reducible refine bel_drew ?_))) hb10
  have zz10 : w9.heap.size + 0 ≤ w10.heap.size := by have := hb10.size; (try simp only [World.size_alloc] at this); omega
  have vw_10 : Below w.heap.size w w10 := bel_trans vw_9 st10
  have vX0_10 : Below w5.heap.size w5 w10 := bel_trans vX0_9 st10
  have vX1_10 : Below w6.heap.size w6 w10 := bel_trans vX1_9 st10
  have vX2_10 : Below w7.heap.size w7 w10 := bel_trans vX2_9 st10
  have za2_10 : w.heap.size < w10.heap.size := by omega
  have ea2_0_10 : w10.cell? ⟨w.heap.size, 0, none⟩ = some (.slice A20 (List.length x2.1) c20) := (hb10.cell (by (try simp only [World.size_alloc]); (try dsimp only); omega)).trans ea2_0_9
  have ea2_1_10 : w10.cell? ⟨w.heap.size, 1, none⟩ = some (.int .i64 x2.2.1) := (hb10.cell (by (try simp only [World.size_alloc]); (try dsimp only); omega)).trans ea2_1_9
  have ea2_2_10 : w10.cell? ⟨w.heap.size, 2, none⟩ = some (.int .i64 x2.2.2.1) := (hb10.cell (by (try simp only [World.size_alloc]); (try dsimp only); omega)).trans ea2_2_9
  have ea2_3_10 : w10.cell? ⟨w.heap.size, 3, none⟩ = some (.int .i64 x2.2.2.2) := (hb10.cell (by (try simp only [World.size_alloc]); (try dsimp only); omega)).trans ea2_3_9
  have zx2_10 : w7.heap.size < w10.heap.size := by omega
  have ex2_0_10 : w10.cell? ⟨w7.heap.size, 0, none⟩ = some (.slice A7_0 (List.length x2.1) c7_0) := (hb10.cell (by (try simp only [World.size_alloc]); (try dsimp only); omega)).trans ex2_0_9
  have ex2_1_10 : w10.cell? ⟨w7.heap.size, 1, none⟩ = some (.int .i64 x2.2.1) := (hb10.cell (by (try simp only [World.size_alloc]); (try dsimp only); omega)).trans ex2_1_9
  have ex2_2_10 : w10.cell? ⟨w7.heap.size, 2, none⟩ = some (.int .i64 x2.2.2.1) := (hb10.cell (by (try simp only [World.size_alloc]); (try dsimp only); omega)).trans ex2_2_9
  have ex2_3_10 : w10.cell? ⟨w7.heap.size, 3, none⟩ = some (.int .i64 x2.2.2.2) := (hb10.cell (by (try simp only [World.size_alloc]); (try dsimp only); omega)).trans ex2_3_9
  clear ea2_0_9 ea2_1_9 ea2_2_9 ea2_3_9 ex2_0_9 ex2_1_9 ex2_2_9 ex2_3_9
  go_wp2_with fail
  refine (C_laws_toSeenNonceS _ _ x1 (Ty.rd_below (by repeat' (first | (with_reducible exact Below.refl _ _) | (with_reducible assumption) | (with_reducible refine bel_set ?_ (by (try dsimp only); omega) _) | (with_reducible refine bel_alloc ?_ _) | (with_reducible refine bel_drewN ?_ _) | (with_reducible refine bel_drew ?_))) h1) s1).mono ?_
  rintro e w11 ⟨A11_, c11_, fp11, rfl, how11, hfr11, hb11⟩
  have st11 : Below w10.heap.size w10 w11 := bel_trans (by repeat' (first | (with_reducible exact Below.refl _ _) | (with_reducible assumption) | (with_reducible refine bel_set ?_ (by (try dsimp only); omega) _) | (with_reducible refine bel_alloc ?_ _) | (with_reducible refine bel_drewN ?_ _) | (with_reducible refine bel_drew ?_))) hb11
  have zz11 : w10.heap.size + 0 ≤ w11.heap.size := by have := hb11.size; (try simp only [World.size_alloc] at this); omega
  have vw_11 : Below w.heap.size w w11 := bel_trans vw_10 st11
  have vX0_11 : Below w5.heap.size w5 w11 := bel_trans vX0_10 st11
  have vX1_11 : Below w6.heap.size w6 w11 := bel_trans vX1_10 st11
  have vX2_11 : Below w7.heap.size w7 w11 := bel_trans vX2_10 st11
  have za2_11 : w.heap.size < w11.heap.size := by omega
  have ea2_0_11 : w11.cell? ⟨w.heap.size, 0, none⟩ = some (.slice A20 (List.length x2.1) c20) := (hb11.cell (by (try simp only [World.size_alloc]); (try dsimp only); omega)).trans ea2_0_10
  have ea2_1_11 : w11.cell? ⟨w.heap.size, 1, none⟩ = some (.int .i64 x2.2.1) := (hb11.cell (by (try simp only [World.size_alloc]); (try dsimp only); omega)).trans ea2_1_10
  have ea2_2_11 : w11.cell? ⟨w.heap.size, 2, none⟩ = some (.int .i64 x2.2.2.1) := (hb11.cell (by (try simp only [World.size_alloc]); (try dsimp only); omega)).trans ea2_2_10
  have ea2_3_11 : w11.cell? ⟨w.heap.size, 3, none⟩ = some (.int .i64 x2.2.2.2) := (hb11.cell (by (try simp only [World.size_alloc]); (try dsimp only); omega)).trans ea2_3_10
  have zx2_11 : w7.heap.size < w11.heap.size := by omega
  have ex2_0_11 : w11.cell? ⟨w7.heap.size, 0, none⟩ = some (.slice A7_0 (List.length x2.1) c7_0) := (hb11.cell (by (try simp only [World.size_alloc]); (try dsimp only); omega)).trans ex2_0_10
  have ex2_1_11 : w11.cell? ⟨w7.heap.size, 1, none⟩ = some (.int .i64 x2.2.1) := (hb11.cell (by (try simp only [World.size_alloc]); (try dsimp only); omega)).trans ex2_1_10
  have ex2_2_11 : w11.cell? ⟨w7.heap.size, 2, none⟩ = some (.int .i64 x2.2.2.1) := (hb11.cell (by (try simp only [World.size_alloc]); (try dsimp only); omega)).trans ex2_2_10
  have ex2_3_11 : w11.cell? ⟨w7.heap.size, 3, none⟩ = some (.int .i64 x2.2.2.2) := (hb11.cell (by (try simp only [World.size_alloc]); (try dsimp only); omega)).trans ex2_3_10
  clear ea2_0_10 ea2_1_10 ea2_2_10 ea2_3_10 ex2_0_10 ex2_1_10 ex2_2_10 ex2_3_10
  go_wp2_with fail
  refine (C_laws_eqSeenNonceS _ _ _ x1 (Ty.ow_rd (Ty.ow_bel (by repeat' (first | (with_reducible exact Below.refl _ _) | (with_reducible assumption) | (with_reducible refine bel_set ?_ (by (try dsimp only); omega) _) | (with_reducible refine bel_alloc ?_ _) | (with_reducible refine bel_drewN ?_ _) | (with_reducible refine bel_drew ?_))) how6)) (Ty.ow_rd how11)).mono ?_
  rintro e w12 ⟨rfl, hb12⟩
  have st12 : Below w11.heap.size w11 w12 := bel_trans (by repeat' (first | (with_reducible exact Below.refl _ _) | (with_reducible assumption) | (with_reducible refine bel_set ?_ (by (try dsimp only); omega) _) | (with_reducible refine bel_alloc ?_ _) | (with_reducible refine bel_drewN ?_ _) | (with_reducible refine bel_drew ?_))) hb12
  have zz12 : w11.heap.size + 0 ≤ w12.heap.size := by have := hb12.size; (try simp only [World.size_alloc] at this); omega
  have vw_12 : Below w.heap.size w w12 := bel_trans vw_11 st12
  have vX0_12 : Below w5.heap.size w5 w12 := bel_trans vX0_11 st12
  have vX1_12 : Below w6.heap.size w6 w12 := bel_trans vX1_11 st12
  have vX2_12 : Below w7.heap.size w7 w12 := bel_trans vX2_11 st12
  have za2_12 : w.heap.size < w12.heap.size := by omega
  have ea2_0_12 : w12.cell? ⟨w.heap.size, 0, none⟩ = some (.slice A20 (List.length x2.1) c20) := (hb12.cell (by (try simp only [World.size_alloc]); (try dsimp only); omega)).trans ea2_0_11
  have ea2_1_12 : w12.cell? ⟨w.heap.size, 1, none⟩ = some (.int .i64 x2.2.1) := (hb12.cell (by (try simp only [World.size_alloc]); (try dsimp only); omega)).trans ea2_1_11
  have ea2_2_12 : w12.cell? ⟨w.heap.size, 2, none⟩ = some (.int .i64 x2.2.2.1) := (hb12.cell (by (try simp only [World.size_alloc]); (try dsimp only); omega)).trans ea2_2_11
  have ea2_3_12 : w12.cell? ⟨w.heap.size, 3, none⟩ = some (.int .i64 x2.2.2.2) := (hb12.cell (by (try simp only [World.size_alloc]); (try dsimp only); omega)).trans ea2_3_11
  have zx2_12 : w7.heap.size < w12.heap.size := by omega
  have ex2_0_12 : w12.cell? ⟨w7.heap.size, 0, none⟩ = some (.slice A7_0 (List.length x2.1) c7_0) := (hb12.cell (by (try simp only [World.size_alloc]); (try dsimp only); omega)).trans ex2_0_11
  have ex2_1_12 : w12.cell? ⟨w7.heap.size, 1, none⟩ = some (.int .i64 x2.2.1) := (hb12.cell (by (try simp only [World.size_alloc]); (try dsimp only); omega)).trans ex2_1_11
  have ex2_2_12 : w12.cell? ⟨w7.heap.size, 2, none⟩ = some (.int .i64 x2.2.2.1) := (hb12.cell (by (try simp only [World.size_alloc]); (try dsimp only); omega)).trans ex2_2_11
  have ex2_3_12 : w12.cell? ⟨w7.heap.size, 3, none⟩ = some (.int .i64 x2.2.2.2) := (hb12.cell (by (try simp only [World.size_alloc]); (try dsimp only); omega)).trans ex2_3_11
  clear ea2_0_11 ea2_1_11 ea2_2_11 ea2_3_11 ex2_0_11 ex2_1_11 ex2_2_11 ex2_3_11
  have HSq2 : Hid (∀ W, Below w12.heap.size w12 W → Below w12.heap.size w12 W ∧ W.cell? ⟨w.heap.size, 0, none⟩ = some (.slice A20 (List.length x2.1) c20) ∧ W.cell? ⟨w.heap.size, 1, none⟩ = some (.int .i64 x2.2.1) ∧ W.cell? ⟨w.heap.size, 2, none⟩ = some (.int .i64 x2.2.2.1) ∧ W.cell? ⟨w.heap.size, 3, none⟩ = some (.int .i64 x2.2.2.2) ∧ W.cell? ⟨w7.heap.size, 0, none⟩ = some (.slice A7_0 (List.length x2.1) c7_0) ∧ W.cell? ⟨w7.heap.size, 1, none⟩ = some (.int .i64 x2.2.1) ∧ W.cell? ⟨w7.heap.size, 2, none⟩ = some (.int .i64 x2.2.2.1) ∧ W.cell? ⟨w7.heap.size, 3, none⟩ = some (.int .i64 x2.2.2.2)) := fun W hW => ⟨hW, (hW.cell za2_12).trans ea2_0_12, (hW.cell za2_12).trans ea2_1_12, (hW.cell za2_12).trans ea2_2_12, (hW.cell za2_12).trans ea2_3_12, (hW.cell zx2_12).trans ex2_0_12, (hW.cell zx2_12).trans ex2_1_12, (hW.cell zx2_12).trans ex2_2_12, (hW.cell zx2_12).trans ex2_3_12⟩
  go_wp2_with fail
  go_region_held3 (fun W => Below w12.heap.size w12 W ∧ W.cell? ⟨w.heap.size, 0, none⟩ = some (.slice A20 (List.length x2.1) c20) ∧ W.cell? ⟨w.heap.size, 1, none⟩ = some (.int .i64 x2.2.1) ∧ W.cell? ⟨w.heap.size, 2, none⟩ = some (.int .i64 x2.2.2.1) ∧ W.cell? ⟨w.heap.size, 3, none⟩ = some (.int .i64 x2.2.2.2) ∧ W.cell? ⟨w7.heap.size, 0, none⟩ = some (.slice A7_0 (List.length x2.1) c7_0) ∧ W.cell? ⟨w7.heap.size, 1, none⟩ = some (.int .i64 x2.2.1) ∧ W.cell? ⟨w7.heap.size, 2, none⟩ = some (.int .i64 x2.2.2.1) ∧ W.cell? ⟨w7.heap.size, 3, none⟩ = some (.int .i64 x2.2.2.2)) (exact HSq2.out _ (by repeat' (first | (with_reducible exact Below.refl _ _) | (with_reducible assumption) | (with_reducible refine bel_set ?_ (by (try dsimp only); omega) _) | (with_reducible refine bel_alloc ?_ _) | (with_reducible refine bel_drewN ?_ _) | (with_reducible refine bel_drew ?_))))
    (first
      | (go_at_call 68; (with_reducible refine (C_laws_toInterest _ _ x2 (Ty.rd_below (by repeat' (first | (with_reducible exact Below.refl _ _) | (with_reducible assumption) | (with_reducible refine bel_set ?_ (by (try dsimp only); omega) _) | (with_reducible refine bel_alloc ?_ _) | (with_reducible refine bel_drewN ?_ _) | (with_reducible refine bel_drew ?_))) h2) s2).mono ?_); rintro e wq ⟨csq, fpq, rfl, howq, hfrq, hbq⟩; have hvq : Below w12.heap.size w12 wq := bel_trans (by repeat' (first | (with_reducible exact Below.refl _ _) | (with_reducible assumption) | (with_reducible refine bel_set ?_ (by (try dsimp only); omega) _) | (with_reducible refine bel_alloc ?_ _) | (with_reducible refine bel_drewN ?_ _) | (with_reducible refine bel_drew ?_))) hbq; have hxq : Below w7.heap.size w7 wq := bel_trans vX2_12 hvq)
      | (go_at_call 70; (with_reducible refine (C_laws_eqInterest _ _ _ x2 (Ty.rd_below hxq (Ty.ow_rd how7)) (Ty.ow_rd howq)).mono ?_); rintro e w13 ⟨rfl, hb13⟩; have hvz : Below w12.heap.size w12 w13 := bel_trans hvq hb13))
  have st13 : Below w12.heap.size w12 w13 := hvz
  clear hvz
  have zz13 : w12.heap.size ≤ w13.heap.size := st13.size
  have vw_13 : Below w.heap.size w w13 := bel_trans vw_12 st13
  have vX0_13 : Below w5.heap.size w5 w13 := bel_trans vX0_12 st13
  have vX1_13 : Below w6.heap.size w6 w13 := bel_trans vX1_12 st13
  have vX2_13 : Below w7.heap.size w7 w13 := bel_trans vX2_12 st13
  have za2_13 : w.heap.size < w13.heap.size := by omega
  have ea2_0_13 : w13.cell? ⟨w.heap.size, 0, none⟩ = some (.slice A20 (List.length x2.1) c20) := (st13.cell za2_12).trans ea2_0_12
  have ea2_1_13 : w13.cell? ⟨w.heap.size, 1, none⟩ = some (.int .i64 x2.2.1) := (st13.cell za2_12).trans ea2_1_12
  have ea2_2_13 : w13.cell? ⟨w.heap.size, 2, none⟩ = some (.int .i64 x2.2.2.1) := (st13.cell za2_12).trans ea2_2_12
  have ea2_3_13 : w13.cell? ⟨w.heap.size, 3, none⟩ = some (.int .i64 x2.2.2.2) := (st13.cell za2_12).trans ea2_3_12
  have zx2_13 : w7.heap.size < w13.heap.size := by omega
  have ex2_0_13 : w13.cell? ⟨w7.heap.size, 0, none⟩ = some (.slice A7_0 (List.length x2.1) c7_0) := (st13.cell zx2_12).trans ex2_0_12
  have ex2_1_13 : w13.cell? ⟨w7.heap.size, 1, none⟩ = some (.int .i64 x2.2.1) := (st13.cell zx2_12).trans ex2_1_12
  have ex2_2_13 : w13.cell? ⟨w7.heap.size, 2, none⟩ = some (.int .i64 x2.2.2.1) := (st13.cell zx2_12).trans ex2_2_12
  have ex2_3_13 : w13.cell? ⟨w7.heap.size, 3, none⟩ = some (.int .i64 x2.2.2.2) := (st13.cell zx2_12).trans ex2_3_12
  clear ea2_0_12 ea2_1_12 ea2_2_12 ea2_3_12 ex2_0_12 ex2_1_12 ex2_2_12 ex2_3_12
  go_wp2_with fail
  go_ret
  exact ⟨rfl, vw_13⟩
end Go.Proofs.Ytamodpeeocmneaa
