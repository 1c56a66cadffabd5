/- The law FnExactEqualPending, walked out of the contracts. Printed by a program. -/
import Derived.Test.YtamodpeeocmneaaEqp
import Derived.Deep.RegionHeld3
namespace Go.Proofs.Ytamodpeeocmneaa
open Go.RowKit
set_option linter.unusedVariables false
set_option linter.unusedSimpArgs false

set_option maxRecDepth 100000 in
set_option maxHeartbeats 4000000 in
theorem L_EqualPending (w : World) (v0 : Value) (x0 : Ty.D (.sl tPendingInterest)) (h0 : Ty.rd w (.sl tPendingInterest) [v0] x0) (v1 : Value) (x1 : Ty.D (.sl tPendingInterest)) (h1 : Ty.rd w (.sl tPendingInterest) [v1] x1) :
    Calls Try.prog 10 #[v0, v1] w (RetB w true) := by
  go_enter Try.func10, Try.ntmps10
  go_wp2_with fail
  refine (C_laws_szPendingInterestS _ _ x0 1048576 (Ty.rd_below (by repeat' (first | (with_reducible exact Below.refl _ _) | (with_reducible assumption) | (with_reducible refine bel_set ?_ (by (try dsimp only); omega) _) | (with_reducible refine bel_alloc ?_ _) | (with_reducible refine bel_drewN ?_ _) | (with_reducible refine bel_drew ?_))) h0) (by omega) (by omega)).mono ?_
  rintro e w1 ⟨r1, rfl, hr1, hb1⟩
  have st1 : Below w.heap.size w w1 := bel_trans (by repeat' (first | (with_reducible exact Below.refl _ _) | (with_reducible assumption) | (with_reducible refine bel_set ?_ (by (try dsimp only); omega) _) | (with_reducible refine bel_alloc ?_ _) | (with_reducible refine bel_drewN ?_ _) | (with_reducible refine bel_drew ?_))) hb1
  have zz1 : w.heap.size + 0 ≤ w1.heap.size := by have := hb1.size; (try simp only [World.size_alloc] at this); omega
  have vw_1 : Below w.heap.size w w1 := st1
  rcases hr1 with rfl | ⟨p1, q1⟩
  · go_wp2
    go_ret
    exact ⟨rfl, vw_1⟩
  go_wp2_with fail
  refine (C_laws_szPendingInterestS _ _ x1 r1 (Ty.rd_below (by repeat' (first | (with_reducible exact Below.refl _ _) | (with_reducible assumption) | (with_reducible refine bel_set ?_ (by (try dsimp only); omega) _) | (with_reducible refine bel_alloc ?_ _) | (with_reducible refine bel_drewN ?_ _) | (with_reducible refine bel_drew ?_))) h1) p1 (by omega)).mono ?_
  rintro e w2 ⟨r2, rfl, hr2, hb2⟩
  have st2 : Below w1.heap.size w1 w2 := bel_trans (by repeat' (first | (with_reducible exact Below.refl _ _) | (with_reducible assumption) | (with_reducible refine bel_set ?_ (by (try dsimp only); omega) _) | (with_reducible refine bel_alloc ?_ _) | (with_reducible refine bel_drewN ?_ _) | (with_reducible refine bel_drew ?_))) hb2
  have zz2 : w1.heap.size + 0 ≤ w2.heap.size := by have := hb2.size; (try simp only [World.size_alloc] at this); omega
  have vw_2 : Below w.heap.size w w2 := bel_trans vw_1 st2
  rcases hr2 with rfl | ⟨p2, q2⟩
  · go_wp2
    go_ret
    exact ⟨rfl, vw_2⟩
  have s0 : Ty.bulk (.sl tPendingInterest) x0 ≤ 1048576 := by omega
  have s1 : Ty.bulk (.sl tPendingInterest) x1 ≤ 1048576 := by omega
  go_wp2_with fail
  refine (C_laws_toPendingInterestS _ _ x0 (Ty.rd_below (by repeat' (first | (with_reducible exact Below.refl _ _) | (with_reducible assumption) | (with_reducible refine bel_set ?_ (by (try dsimp only); omega) _) | (with_reducible refine bel_alloc ?_ _) | (with_reducible refine bel_drewN ?_ _) | (with_reducible refine bel_drew ?_))) h0) s0).mono ?_
  rintro e w3 ⟨A3_, c3_, fp3, rfl, how3, hfr3, hb3⟩
  have st3 : Below w2.heap.size w2 w3 := bel_trans (by repeat' (first | (with_reducible exact Below.refl _ _) | (with_reducible assumption) | (with_reducible refine bel_set ?_ (by (try dsimp only); omega) _) | (with_reducible refine bel_alloc ?_ _) | (with_reducible refine bel_drewN ?_ _) | (with_reducible refine bel_drew ?_))) hb3
  have zz3 : w2.heap.size + 0 ≤ w3.heap.size := by have := hb3.size; (try simp only [World.size_alloc] at this); omega
  have vw_3 : Below w.heap.size w w3 := bel_trans vw_2 st3
  have vtp0_3 : Below w3.heap.size w3 w3 := Below.refl _ _
  go_wp2_with fail
  refine (C_laws_toPendingInterestS _ _ x1 (Ty.rd_below (by repeat' (first | (with_reducible exact Below.refl _ _) | (with_reducible assumption) | (with_reducible refine bel_set ?_ (by (try dsimp only); omega) _) | (with_reducible refine bel_alloc ?_ _) | (with_reducible refine bel_drewN ?_ _) | (with_reducible refine bel_drew ?_))) h1) s1).mono ?_
  rintro e w4 ⟨A4_, c4_, fp4, rfl, how4, hfr4, hb4⟩
  have st4 : Below w3.heap.size w3 w4 := bel_trans (by repeat' (first | (with_reducible exact Below.refl _ _) | (with_reducible assumption) | (with_reducible refine bel_set ?_ (by (try dsimp only); omega) _) | (with_reducible refine bel_alloc ?_ _) | (with_reducible refine bel_drewN ?_ _) | (with_reducible refine bel_drew ?_))) hb4
  have zz4 : w3.heap.size + 0 ≤ w4.heap.size := by have := hb4.size; (try simp only [World.size_alloc] at this); omega
  have vw_4 : Below w.heap.size w w4 := bel_trans vw_3 st4
  have vtp0_4 : Below w3.heap.size w3 w4 := st4
  have vtp1_4 : Below w4.heap.size w4 w4 := Below.refl _ _
  go_wp2_with fail
  refine (C_spec_EqualPending _ _ x0 _ x1 (Ty.ow_rd (Ty.ow_bel (by repeat' (first | (with_reducible exact Below.refl _ _) | (with_reducible assumption) | (with_reducible refine bel_set ?_ (by (try dsimp only); omega) _) | (with_reducible refine bel_alloc ?_ _) | (with_reducible refine bel_drewN ?_ _) | (with_reducible refine bel_drew ?_))) how3)) (Ty.ow_rd (Ty.ow_bel (by repeat' (first | (with_reducible exact Below.refl _ _) | (with_reducible assumption) | (with_reducible refine bel_set ?_ (by (try dsimp only); omega) _) | (with_reducible refine bel_alloc ?_ _) | (with_reducible refine bel_drewN ?_ _) | (with_reducible refine bel_drew ?_))) how4)) s0 s1).mono ?_
  rintro e w5 ⟨rfl, hb5⟩
  have st5 : Below w4.heap.size w4 w5 := bel_trans (by repeat' (first | (with_reducible exact Below.refl _ _) | (with_reducible assumption) | (with_reducible refine bel_set ?_ (by (try dsimp only); omega) _) | (with_reducible refine bel_alloc ?_ _) | (with_reducible refine bel_drewN ?_ _) | (with_reducible refine bel_drew ?_))) hb5
  have zz5 : w4.heap.size + 0 ≤ w5.heap.size := by have := hb5.size; (try simp only [World.size_alloc] at this); omega
  have vw_5 : Below w.heap.size w w5 := bel_trans vw_4 st5
  go_wp2_with fail
  refine (C_laws_toPendingInterestS _ _ x0 (Ty.rd_below (by repeat' (first | (with_reducible exact Below.refl _ _) | (with_reducible assumption) | (with_reducible refine bel_set ?_ (by (try dsimp only); omega) _) | (with_reducible refine bel_alloc ?_ _) | (with_reducible refine bel_drewN ?_ _) | (with_reducible refine bel_drew ?_))) h0) s0).mono ?_
  rintro e w6 ⟨A6_, c6_, fp6, rfl, how6, hfr6, hb6⟩
  have st6 : Below w5.heap.size w5 w6 := bel_trans (by repeat' (first | (with_reducible exact Below.refl _ _) | (with_reducible assumption) | (with_reducible refine bel_set ?_ (by (try dsimp only); omega) _) | (with_reducible refine bel_alloc ?_ _) | (with_reducible refine bel_drewN ?_ _) | (with_reducible refine bel_drew ?_))) hb6
  have zz6 : w5.heap.size + 0 ≤ w6.heap.size := by have := hb6.size; (try simp only [World.size_alloc] at this); omega
  have vw_6 : Below w.heap.size w w6 := bel_trans vw_5 st6
  have frX0 : FrI (w5.heap.size + 0) w6.heap.size fp6 := hfr6.mono (by (try simp only [World.size_alloc]); omega) (Nat.le_refl _)
  have vX0_6 : Below w6.heap.size w6 w6 := Below.refl _ _
  go_wp2_with fail
  refine (C_laws_toPendingInterestS _ _ x1 (Ty.rd_below (by repeat' (first | (with_reducible exact Below.refl _ _) | (with_reducible assumption) | (with_reducible refine bel_set ?_ (by (try dsimp only); omega) _) | (with_reducible refine bel_alloc ?_ _) | (with_reducible refine bel_drewN ?_ _) | (with_reducible refine bel_drew ?_))) h1) s1).mono ?_
  rintro e w7 ⟨A7_, c7_, fp7, rfl, how7, hfr7, hb7⟩
  have st7 : Below w6.heap.size w6 w7 := bel_trans (by repeat' (first | (with_reducible exact Below.refl _ _) | (with_reducible assumption) | (with_reducible refine bel_set ?_ (by (try dsimp only); omega) _) | (with_reducible refine bel_alloc ?_ _) | (with_reducible refine bel_drewN ?_ _) | (with_reducible refine bel_drew ?_))) hb7
  have zz7 : w6.heap.size + 0 ≤ w7.heap.size := by have := hb7.size; (try simp only [World.size_alloc] at this); omega
  have vw_7 : Below w.heap.size w w7 := bel_trans vw_6 st7
  have vX0_7 : Below w6.heap.size w6 w7 := st7
  have frX1 : FrI (w6.heap.size + 0) w7.heap.size fp7 := hfr7.mono (by (try simp only [World.size_alloc]); omega) (Nat.le_refl _)
  have vX1_7 : Below w7.heap.size w7 w7 := Below.refl _ _
  go_wp2_with fail
  refine (C_impl_EqualPending _ _ x0 _ x1 (Ty.ow_rd (Ty.ow_bel (by repeat' (first | (with_reducible exact Below.refl _ _) | (with_reducible assumption) | (with_reducible refine bel_set ?_ (by (try dsimp only); omega) _) | (with_reducible refine bel_alloc ?_ _) | (with_reducible refine bel_drewN ?_ _) | (with_reducible refine bel_drew ?_))) how6)) (Ty.ow_rd (Ty.ow_bel (by repeat' (first | (with_reducible exact Below.refl _ _) | (with_reducible assumption) | (with_reducible refine bel_set ?_ (by (try dsimp only); omega) _) | (with_reducible refine bel_alloc ?_ _) | (with_reducible refine bel_drewN ?_ _) | (with_reducible refine bel_drew ?_))) how7)) s0 s1).mono ?_
  rintro e w8 ⟨rfl, hb8⟩
  have st8 : Below w7.heap.size w7 w8 := bel_trans (by repeat' (first | (with_reducible exact Below.refl _ _) | (with_reducible assumption) | (with_reducible refine bel_set ?_ (by (try dsimp only); omega) _) | (with_reducible refine bel_alloc ?_ _) | (with_reducible refine bel_drewN ?_ _) | (with_reducible refine bel_drew ?_))) hb8
  have zz8 : w7.heap.size + 0 ≤ w8.heap.size := by have := hb8.size; (try simp only [World.size_alloc] at this); omega
  have vw_8 : Below w.heap.size w w8 := bel_trans vw_7 st8
  have vX0_8 : Below w6.heap.size w6 w8 := bel_trans vX0_7 st8
  have vX1_8 : Below w7.heap.size w7 w8 := st8
  have hq0 : ((f_EqualPending x0 x1) != (f_EqualPending x0 x1)) = false := by simp
  go_wp2_with fail
  refine (C_laws_toPendingInterestS _ _ x0 (Ty.rd_below (by repeat' (first | (with_reducible exact Below.refl _ _) | (with_reducible assumption) | (with_reducible refine bel_set ?_ (by (try dsimp only); omega) _) | (with_reducible refine bel_alloc ?_ _) | (with_reducible refine bel_drewN ?_ _) | (with_reducible refine bel_drew ?_))) h0) s0).mono ?_
  rintro e w9 ⟨A9_, c9_, fp9, rfl, how9, hfr9, hb9⟩
  have st9 : Below w8.heap.size w8 w9 := bel_trans (by repeat' (first | (with_reducible exact Below.refl _ _) | (with_reducible assumption) | (with_reducible refine bel_set ?_ (by (try dsimp only); omega) _) | (with_reducible refine bel_alloc ?_ _) | (with_reducible refine bel_drewN ?_ _) | (with_reducible refine bel_drew ?_))) hb9
  have zz9 : w8.heap.size + 0 ≤ w9.heap.size := by have := hb9.size; (try simp only [World.size_alloc] at this); omega
  have vw_9 : Below w.heap.size w w9 := bel_trans vw_8 st9
  have vX0_9 : Below w6.heap.size w6 w9 := bel_trans vX0_8 st9
  have vX1_9 : Below w7.heap.size w7 w9 := bel_trans vX1_8 st9
  go_wp2_with fail
  refine (C_laws_eqPendingInterestS _ _ _ x0 (Ty.ow_rd (Ty.ow_bel (by repeat' (first | (with_reducible exact Below.refl _ _) | (with_reducible assumption) | (with_reducible refine bel_set ?_ (by (try dsimp only); omega) _) | (with_reducible refine bel_alloc ?_ _) | (with_reducible refine bel_drewN ?_ _) | (with_reducible refine bel_drew ?_))) how6)) (Ty.ow_rd how9)).mono ?_
  rintro e w10 ⟨rfl, hb10⟩
  have st10 : Below w9.heap.size w9 w10 := bel_trans (by repeat' (first | (with_reducible exact Below.refl _ _) | (with_reducible assumption) | (with_reducible refine bel_set ?_ (by (try dsimp only); omega) _) | (with_reducible refine bel_alloc ?_ _) | (with_reducible refine bel_drewN ?_ _) | (with_reducible refine bel_drew ?_))) hb10
  have zz10 : w9.heap.size + 0 ≤ w10.heap.size := by have := hb10.size; (try simp only [World.size_alloc] at this); omega
  have vw_10 : Below w.heap.size w w10 := bel_trans vw_9 st10
  have vX0_10 : Below w6.heap.size w6 w10 := bel_trans vX0_9 st10
  have vX1_10 : Below w7.heap.size w7 w10 := bel_trans vX1_9 st10
  go_wp2_with fail
  refine (C_laws_toPendingInterestS _ _ x1 (Ty.rd_below (by repeat' (first | (with_reducible exact Below.refl _ _) | (with_reducible assumption) | (with_reducible refine bel_set ?_ (by (try dsimp only); omega) _) | (with_reducible refine bel_alloc ?_ _) | (with_reducible refine bel_drewN ?_ _) | (with_reducible refine bel_drew ?_))) h1) s1).mono ?_
  rintro e w11 ⟨A11_, c11_, fp11, rfl, how11, hfr11, hb11⟩
  have st11 : Below w10.heap.size w10 w11 := bel_trans (by repeat' (first | (with_reducible exact Below.refl _ _) | (with_reducible assumption) | (with_reducible refine bel_set ?_ (by (try dsimp only); omega) _) | (with_reducible refine bel_alloc ?_ _) | (with_reducible refine bel_drewN ?_ _) | (with_reducible refine bel_drew ?_))) hb11
  have zz11 : w10.heap.size + 0 ≤ w11.heap.size := by have := hb11.size; (try simp only [World.size_alloc] at this); omega
  have vw_11 : Below w.heap.size w w11 := bel_trans vw_10 st11
  have vX0_11 : Below w6.heap.size w6 w11 := bel_trans vX0_10 st11
  have vX1_11 : Below w7.heap.size w7 w11 := bel_trans vX1_10 st11
  go_wp2_with fail
  refine (C_laws_eqPendingInterestS _ _ _ x1 (Ty.ow_rd (Ty.ow_bel (by repeat' (first | (with_reducible exact Below.refl _ _) | (with_reducible assumption) | (with_reducible refine bel_set ?_ (by (try dsimp only); omega) _) | (with_reducible refine bel_alloc ?_ _) | (with_reducible refine bel_drewN ?_ _) | (with_reducible refine bel_drew ?_))) how7)) (Ty.ow_rd how11)).mono ?_
  rintro e w12 ⟨rfl, hb12⟩
  have st12 : Below w11.heap.size w11 w12 := bel_trans (by repeat' (first | (with_reducible exact Below.refl _ _) | (with_reducible assumption) | (with_reducible refine bel_set ?_ (by (try dsimp only); omega) _) | (with_reducible refine bel_alloc ?_ _) | (with_reducible refine bel_drewN ?_ _) | (with_reducible refine bel_drew ?_))) hb12
  have zz12 : w11.heap.size + 0 ≤ w12.heap.size := by have := hb12.size; (try simp only [World.size_alloc] at this); omega
  have vw_12 : Below w.heap.size w w12 := bel_trans vw_11 st12
  have vX0_12 : Below w6.heap.size w6 w12 := bel_trans vX0_11 st12
  have vX1_12 : Below w7.heap.size w7 w12 := bel_trans vX1_11 st12
  go_wp2_with fail
  go_ret
  exact ⟨rfl, vw_12⟩
end Go.Proofs.Ytamodpeeocmneaa
