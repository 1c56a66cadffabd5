/- The law FnExactExpirePending, walked out of the contracts. Printed by a program. -/
import Derived.Test.YtpjnidfdkggpfaaExs
import Derived.Deep.RegionHeld3
namespace Go.Proofs.Ytpjnidfdkggpfaa
open Go.RowKit
set_option linter.unusedVariables false
set_option linter.unusedSimpArgs false

set_option maxRecDepth 100000 in
set_option maxHeartbeats 4000000 in
theorem L_ExpirePending (w : World) (v0 : Value) (x0 : Ty.D (.sl tPendingInterest)) (h0 : Ty.rd w (.sl tPendingInterest) [v0] x0) (a1 : Int) (i1 : -9223372036854775808 ≤ a1 ∧ a1 ≤ 9223372036854775807) :
    Calls Try.prog 4 #[v0, .int .i64 a1] w (RetB w true) := by
  go_enter Try.func4, Try.ntmps4
  go_wp2_with fail
  refine (C_laws_szPendingInterestS _ _ x0 1048576 (Ty.rd_below (by repeat' (first | (with_reducible exact Below.refl _ _) | (with_reducible assumption) | (with_reducible refine bel_set ?_ (by (try dsimp only); omega) _) | (with_reducible refine bel_alloc ?_ _) | (with_reducible refine bel_drewN ?_ _) | (with_reducible refine bel_drew ?_))) h0) (by omega) (by omega)).mono ?_
  rintro e w1 ⟨r1, rfl, hr1, hb1⟩
  have st1 : Below w.heap.size w w1 := bel_trans (by repeat' (first | (with_reducible exact Below.refl _ _) | (with_reducible assumption) | (with_reducible refine bel_set ?_ (by (try dsimp only); omega) _) | (with_reducible refine bel_alloc ?_ _) | (with_reducible refine bel_drewN ?_ _) | (with_reducible refine bel_drew ?_))) hb1
  have zz1 : w.heap.size + 0 ≤ w1.heap.size := by have := hb1.size; (try simp only [World.size_alloc] at this); omega
  have vw_1 : Below w.heap.size w w1 := st1
  rcases hr1 with rfl | ⟨p1, q1⟩
  · go_wp2
    go_ret
    exact ⟨rfl, vw_1⟩
  have s0 : Ty.bulk (.sl tPendingInterest) x0 ≤ 1048576 := by omega
  go_wp2_with fail
  refine (C_laws_toPendingInterestS _ _ x0 (Ty.rd_below (by repeat' (first | (with_reducible exact Below.refl _ _) | (with_reducible assumption) | (with_reducible refine bel_set ?_ (by (try dsimp only); omega) _) | (with_reducible refine bel_alloc ?_ _) | (with_reducible refine bel_drewN ?_ _) | (with_reducible refine bel_drew ?_))) h0) s0).mono ?_
  rintro e w2 ⟨A2_, c2_, fp2, rfl, how2, hfr2, hb2⟩
  have st2 : Below w1.heap.size w1 w2 := bel_trans (by repeat' (first | (with_reducible exact Below.refl _ _) | (with_reducible assumption) | (with_reducible refine bel_set ?_ (by (try dsimp only); omega) _) | (with_reducible refine bel_alloc ?_ _) | (with_reducible refine bel_drewN ?_ _) | (with_reducible refine bel_drew ?_))) hb2
  have zz2 : w1.heap.size + 0 ≤ w2.heap.size := by have := hb2.size; (try simp only [World.size_alloc] at this); omega
  have vw_2 : Below w.heap.size w w2 := bel_trans vw_1 st2
  have vtp0_2 : Below w2.heap.size w2 w2 := Below.refl _ _
  go_wp2_with fail
  refine (C_spec_ExpirePending _ _ x0 a1 (Ty.ow_rd (Ty.ow_bel (by repeat' (first | (with_reducible exact Below.refl _ _) | (with_reducible assumption) | (with_reducible refine bel_set ?_ (by (try dsimp only); omega) _) | (with_reducible refine bel_alloc ?_ _) | (with_reducible refine bel_drewN ?_ _) | (with_reducible refine bel_drew ?_))) how2)) s0 i1).mono ?_
  rintro e w3 ⟨A3_, c3_, fp3, rfl, how3, hfr3, hb3⟩
  have st3 : Below w2.heap.size w2 w3 := bel_trans (by repeat' (first | (with_reducible exact Below.refl _ _) | (with_reducible assumption) | (with_reducible refine bel_set ?_ (by (try dsimp only); omega) _) | (with_reducible refine bel_alloc ?_ _) | (with_reducible refine bel_drewN ?_ _) | (with_reducible refine bel_drew ?_))) hb3
  have zz3 : w2.heap.size + 0 ≤ w3.heap.size := by have := hb3.size; (try simp only [World.size_alloc] at this); omega
  have vw_3 : Below w.heap.size w w3 := bel_trans vw_2 st3
  have frW0 : FrI (w2.heap.size + 0) w3.heap.size fp3 := hfr3.mono (by (try simp only [World.size_alloc]); omega) (Nat.le_refl _)
  have vW0_3 : Below w3.heap.size w3 w3 := Below.refl _ _
  go_wp2_with fail
  refine (C_laws_toPendingInterestS _ _ x0 (Ty.rd_below (by repeat' (first | (with_reducible exact Below.refl _ _) | (with_reducible assumption) | (with_reducible refine bel_set ?_ (by (try dsimp only); omega) _) | (with_reducible refine bel_alloc ?_ _) | (with_reducible refine bel_drewN ?_ _) | (with_reducible refine bel_drew ?_))) h0) s0).mono ?_
  rintro e w4 ⟨A4_, c4_, fp4, rfl, how4, hfr4, hb4⟩
  have st4 : Below w3.heap.size w3 w4 := bel_trans (by repeat' (first | (with_reducible exact Below.refl _ _) | (with_reducible assumption) | (with_reducible refine bel_set ?_ (by (try dsimp only); omega) _) | (with_reducible refine bel_alloc ?_ _) | (with_reducible refine bel_drewN ?_ _) | (with_reducible refine bel_drew ?_))) hb4
  have zz4 : w3.heap.size + 0 ≤ w4.heap.size := by have := hb4.size; (try simp only [World.size_alloc] at this); omega
  have vw_4 : Below w.heap.size w w4 := bel_trans vw_3 st4
  have vW0_4 : Below w3.heap.size w3 w4 := st4
  have frX0 : FrI (w3.heap.size + 0) w4.heap.size fp4 := hfr4.mono (by (try simp only [World.size_alloc]); omega) (Nat.le_refl _)
  have vX0_4 : Below w4.heap.size w4 w4 := Below.refl _ _
  go_wp2_with fail
  refine (C_impl_ExpirePending _ _ x0 a1 (Ty.ow_rd (Ty.ow_bel (by repeat' (first | (with_reducible exact Below.refl _ _) | (with_reducible assumption) | (with_reducible refine bel_set ?_ (by (try dsimp only); omega) _) | (with_reducible refine bel_alloc ?_ _) | (with_reducible refine bel_drewN ?_ _) | (with_reducible refine bel_drew ?_))) how4)) s0 i1).mono ?_
  rintro e w5 ⟨A5_, c5_, fp5, rfl, how5, hfr5, hb5⟩
  have st5 : Below w4.heap.size w4 w5 := bel_trans (by repeat' (first | (with_reducible exact Below.refl _ _) | (with_reducible assumption) | (with_reducible refine bel_set ?_ (by (try dsimp only); omega) _) | (with_reducible refine bel_alloc ?_ _) | (with_reducible refine bel_drewN ?_ _) | (with_reducible refine bel_drew ?_))) hb5
  have zz5 : w4.heap.size + 0 ≤ w5.heap.size := by have := hb5.size; (try simp only [World.size_alloc] at this); omega
  have vw_5 : Below w.heap.size w w5 := bel_trans vw_4 st5
  have vW0_5 : Below w3.heap.size w3 w5 := bel_trans vW0_4 st5
  have vX0_5 : Below w4.heap.size w4 w5 := st5
  have frG0 : FrI (w4.heap.size + 0) w5.heap.size fp5 := hfr5.mono (by (try simp only [World.size_alloc]); omega) (Nat.le_refl _)
  have vG0_5 : Below w5.heap.size w5 w5 := Below.refl _ _
  go_wp2_with fail
  refine (C_laws_eqPendingInterestS _ _ _ (f_ExpirePending x0 a1) (Ty.ow_rd (Ty.ow_bel (by repeat' (first | (with_reducible exact Below.refl _ _) | (with_reducible assumption) | (with_reducible refine bel_set ?_ (by (try dsimp only); omega) _) | (with_reducible refine bel_alloc ?_ _) | (with_reducible refine bel_drewN ?_ _) | (with_reducible refine bel_drew ?_))) how5)) (Ty.ow_rd (Ty.ow_bel (by repeat' (first | (with_reducible exact Below.refl _ _) | (with_reducible assumption) | (with_reducible refine bel_set ?_ (by (try dsimp only); omega) _) | (with_reducible refine bel_alloc ?_ _) | (with_reducible refine bel_drewN ?_ _) | (with_reducible refine bel_drew ?_))) how3))).mono ?_
  rintro e w6 ⟨rfl, hb6⟩
  have st6 : Below w5.heap.size w5 w6 := bel_trans (by repeat' (first | (with_reducible exact Below.refl _ _) | (with_reducible assumption) | (with_reducible refine bel_set ?_ (by (try dsimp only); omega) _) | (with_reducible refine bel_alloc ?_ _) | (with_reducible refine bel_drewN ?_ _) | (with_reducible refine bel_drew ?_))) hb6
  have zz6 : w5.heap.size + 0 ≤ w6.heap.size := by have := hb6.size; (try simp only [World.size_alloc] at this); omega
  have vw_6 : Below w.heap.size w w6 := bel_trans vw_5 st6
  have vW0_6 : Below w3.heap.size w3 w6 := bel_trans vW0_5 st6
  have vX0_6 : Below w4.heap.size w4 w6 := bel_trans vX0_5 st6
  have vG0_6 : Below w5.heap.size w5 w6 := st6
  go_wp2_with fail
  refine (C_laws_toPendingInterestS _ _ x0 (Ty.rd_below (by repeat' (first | (with_reducible exact Below.refl _ _) | (with_reducible assumption) | (with_reducible refine bel_set ?_ (by (try dsimp only); omega) _) | (with_reducible refine bel_alloc ?_ _) | (with_reducible refine bel_drewN ?_ _) | (with_reducible refine bel_drew ?_))) h0) s0).mono ?_
  rintro e w7 ⟨A7_, c7_, fp7, rfl, how7, hfr7, hb7⟩
  have st7 : Below w6.heap.size w6 w7 := bel_trans (by repeat' (first | (with_reducible exact Below.refl _ _) | (with_reducible assumption) | (with_reducible refine bel_set ?_ (by (try dsimp only); omega) _) | (with_reducible refine bel_alloc ?_ _) | (with_reducible refine bel_drewN ?_ _) | (with_reducible refine bel_drew ?_))) hb7
  have zz7 : w6.heap.size + 0 ≤ w7.heap.size := by have := hb7.size; (try simp only [World.size_alloc] at this); omega
  have vw_7 : Below w.heap.size w w7 := bel_trans vw_6 st7
  have vW0_7 : Below w3.heap.size w3 w7 := bel_trans vW0_6 st7
  have vX0_7 : Below w4.heap.size w4 w7 := bel_trans vX0_6 st7
  have vG0_7 : Below w5.heap.size w5 w7 := bel_trans vG0_6 st7
  go_wp2_with fail
  refine (C_laws_eqPendingInterestS _ _ _ x0 (Ty.ow_rd (Ty.ow_bel (by repeat' (first | (with_reducible exact Below.refl _ _) | (with_reducible assumption) | (with_reducible refine bel_set ?_ (by (try dsimp only); omega) _) | (with_reducible refine bel_alloc ?_ _) | (with_reducible refine bel_drewN ?_ _) | (with_reducible refine bel_drew ?_))) how4)) (Ty.ow_rd how7)).mono ?_
  rintro e w8 ⟨rfl, hb8⟩
  have st8 : Below w7.heap.size w7 w8 := bel_trans (by repeat' (first | (with_reducible exact Below.refl _ _) | (with_reducible assumption) | (with_reducible refine bel_set ?_ (by (try dsimp only); omega) _) | (with_reducible refine bel_alloc ?_ _) | (with_reducible refine bel_drewN ?_ _) | (with_reducible refine bel_drew ?_))) hb8
  have zz8 : w7.heap.size + 0 ≤ w8.heap.size := by have := hb8.size; (try simp only [World.size_alloc] at this); omega
  have vw_8 : Below w.heap.size w w8 := bel_trans vw_7 st8
  have vW0_8 : Below w3.heap.size w3 w8 := bel_trans vW0_7 st8
  have vX0_8 : Below w4.heap.size w4 w8 := bel_trans vX0_7 st8
  have vG0_8 : Below w5.heap.size w5 w8 := bel_trans vG0_7 st8
  have cb0 : Ty.cnt (.sl tPendingInterest) x0 ≤ 100000000 := Nat.le_trans (Ty.cntv_le (.sl tPendingInterest) x0) (Nat.le_trans (Nat.mul_le_mul_left _ s0) (by decide))
  have cbG : Ty.cnt (.sl tPendingInterest) (f_ExpirePending x0 a1) ≤ 100000000000 := N_ExpirePending s0
  go_wp2_with fail
  refine (C_laws_markPendingInterestS _ _ x0 fp4 (1) (Ty.ow_bel (by repeat' (first | (with_reducible exact Below.refl _ _) | (with_reducible assumption) | (with_reducible refine bel_set ?_ (by (try dsimp only); omega) _) | (with_reducible refine bel_alloc ?_ _) | (with_reducible refine bel_drewN ?_ _) | (with_reducible refine bel_drew ?_))) how4) frX0.1 (by omega) (by omega)).mono ?_
  rintro e w9 ⟨rfl, hm9, hk9⟩
  have zz9 : w8.heap.size ≤ w9.heap.size := hk9.size
  have szl9 : w.heap.size ≤ w3.heap.size := vw_3.size
  have vw_9 : Below w.heap.size w w9 := vw_8.trans (hk9.below vw_8.size (fun y hy => by have := frX0.2 y hy; omega))
  have howW0_9 : Ty.ow w9 (.sl tPendingInterest) [.slice A3_ (List.length (f_ExpirePending x0 a1)) c3_] (f_ExpirePending x0 a1) fp3 := Ty.ow_keep (fun y hy => (hk9.block y (Nat.lt_of_lt_of_le (Ty.ow_lt how3 y hy) vW0_8.size) (fun hy2 => by have := frW0.2 y hy; have := frX0.2 y hy2; omega)).trans (vW0_8.block y (Ty.ow_lt how3 y hy))) how3
  have vW0_9 : Below w9.heap.size w9 w9 := Below.refl _ _
  have howG0_9 : Ty.ow w9 (.sl tPendingInterest) [.slice A5_ (List.length (f_ExpirePending x0 a1)) c5_] (f_ExpirePending x0 a1) fp5 := Ty.ow_keep (fun y hy => (hk9.block y (Nat.lt_of_lt_of_le (Ty.ow_lt how5 y hy) vG0_8.size) (fun hy2 => by have := frG0.2 y hy; have := frX0.2 y hy2; omega)).trans (vG0_8.block y (Ty.ow_lt how5 y hy))) how5
  have vG0_9 : Below w9.heap.size w9 w9 := Below.refl _ _
  go_wp2_with fail
  refine (C_laws_eqPendingInterestS _ _ _ (f_ExpirePending x0 a1) (Ty.ow_rd (Ty.ow_bel (by repeat' (first | (with_reducible exact Below.refl _ _) | (with_reducible assumption) | (with_reducible refine bel_set ?_ (by (try dsimp only); omega) _) | (with_reducible refine bel_alloc ?_ _) | (with_reducible refine bel_drewN ?_ _) | (with_reducible refine bel_drew ?_))) howG0_9)) (Ty.ow_rd (Ty.ow_bel (by repeat' (first | (with_reducible exact Below.refl _ _) | (with_reducible assumption) | (with_reducible refine bel_set ?_ (by (try dsimp only); omega) _) | (with_reducible refine bel_alloc ?_ _) | (with_reducible refine bel_drewN ?_ _) | (with_reducible refine bel_drew ?_))) howW0_9))).mono ?_
  rintro e w10 ⟨rfl, hb10⟩
  have st10 : Below w9.heap.size w9 w10 := bel_trans (by repeat' (first | (with_reducible exact Below.refl _ _) | (with_reducible assumption) | (with_reducible refine bel_set ?_ (by (try dsimp only); omega) _) | (with_reducible refine bel_alloc ?_ _) | (with_reducible refine bel_drewN ?_ _) | (with_reducible refine bel_drew ?_))) hb10
  have zz10 : w9.heap.size + 0 ≤ w10.heap.size := by have := hb10.size; (try simp only [World.size_alloc] at this); omega
  have vw_10 : Below w.heap.size w w10 := bel_trans vw_9 st10
  have vW0_10 : Below w9.heap.size w9 w10 := st10
  have vG0_10 : Below w9.heap.size w9 w10 := st10
  go_wp2_with fail
  refine (C_laws_markPendingInterestS _ _ (f_ExpirePending x0 a1) fp5 (1) (Ty.ow_bel (by repeat' (first | (with_reducible exact Below.refl _ _) | (with_reducible assumption) | (with_reducible refine bel_set ?_ (by (try dsimp only); omega) _) | (with_reducible refine bel_alloc ?_ _) | (with_reducible refine bel_drewN ?_ _) | (with_reducible refine bel_drew ?_))) howG0_9) frG0.1 (by omega) (by omega)).mono ?_
  rintro e w11 ⟨rfl, hm11, hk11⟩
  have zz11 : w10.heap.size ≤ w11.heap.size := hk11.size
  have szl11 : w.heap.size ≤ w4.heap.size := vw_4.size
  have vw_11 : Below w.heap.size w w11 := vw_10.trans (hk11.below vw_10.size (fun y hy => by have := frG0.2 y hy; omega))
  have howW0_11 : Ty.ow w11 (.sl tPendingInterest) [.slice A3_ (List.length (f_ExpirePending x0 a1)) c3_] (f_ExpirePending x0 a1) fp3 := Ty.ow_keep (fun y hy => (hk11.block y (Nat.lt_of_lt_of_le (Ty.ow_lt howW0_9 y hy) vW0_10.size) (fun hy2 => by have := frW0.2 y hy; have := frG0.2 y hy2; omega)).trans (vW0_10.block y (Ty.ow_lt howW0_9 y hy))) howW0_9
  have vW0_11 : Below w11.heap.size w11 w11 := Below.refl _ _
  have frM : FrI (w4.heap.size + 0) w5.heap.size fp5 := frG0
  have vM0_11 : Below w11.heap.size w11 w11 := Below.refl _ _
  have hqm : ((1 + ((Ty.cnt (.sl tPendingInterest) (f_ExpirePending x0 a1) : Nat) : Int) : Int) != 1 + ((Ty.cnt (.sl tPendingInterest) (f_ExpirePending x0 a1) : Nat) : Int)) = false := by simp
  go_wp2_with fail
  refine (C_laws_heldPendingInterestS _ _ (f_ExpirePending x0 a1) 1 (Ty.ow_rd (Ty.ow_bel (by repeat' (first | (with_reducible exact Below.refl _ _) | (with_reducible assumption) | (with_reducible refine bel_set ?_ (by (try dsimp only); omega) _) | (with_reducible refine bel_alloc ?_ _) | (with_reducible refine bel_drewN ?_ _) | (with_reducible refine bel_drew ?_))) hm11)) (by omega) (by omega)).mono ?_
  rintro e w12 ⟨rfl, hb12⟩
  have st12 : Below w11.heap.size w11 w12 := bel_trans (by repeat' (first | (with_reducible exact Below.refl _ _) | (with_reducible assumption) | (with_reducible refine bel_set ?_ (by (try dsimp only); omega) _) | (with_reducible refine bel_alloc ?_ _) | (with_reducible refine bel_drewN ?_ _) | (with_reducible refine bel_drew ?_))) hb12
  have zz12 : w11.heap.size + 0 ≤ w12.heap.size := by have := hb12.size; (try simp only [World.size_alloc] at this); omega
  have vw_12 : Below w.heap.size w w12 := bel_trans vw_11 st12
  have vW0_12 : Below w11.heap.size w11 w12 := st12
  have vM0_12 : Below w11.heap.size w11 w12 := st12
  go_wp2_with fail
  refine (C_laws_toPendingInterestS _ _ x0 (Ty.rd_below (by repeat' (first | (with_reducible exact Below.refl _ _) | (with_reducible assumption) | (with_reducible refine bel_set ?_ (by (try dsimp only); omega) _) | (with_reducible refine bel_alloc ?_ _) | (with_reducible refine bel_drewN ?_ _) | (with_reducible refine bel_drew ?_))) h0) s0).mono ?_
  rintro e w13 ⟨A13_, c13_, fp13, rfl, how13, hfr13, hb13⟩
  have st13 : Below w12.heap.size w12 w13 := bel_trans (by repeat' (first | (with_reducible exact Below.refl _ _) | (with_reducible assumption) | (with_reducible refine bel_set ?_ (by (try dsimp only); omega) _) | (with_reducible refine bel_alloc ?_ _) | (with_reducible refine bel_drewN ?_ _) | (with_reducible refine bel_drew ?_))) hb13
  have zz13 : w12.heap.size + 0 ≤ w13.heap.size := by have := hb13.size; (try simp only [World.size_alloc] at this); omega
  have vw_13 : Below w.heap.size w w13 := bel_trans vw_12 st13
  have vW0_13 : Below w11.heap.size w11 w13 := bel_trans vW0_12 st13
  have vM0_13 : Below w11.heap.size w11 w13 := bel_trans vM0_12 st13
  have vtr0_13 : Below w13.heap.size w13 w13 := Below.refl _ _
  go_wp2_with fail
  refine (C_impl_ExpirePending _ _ x0 a1 (Ty.ow_rd (Ty.ow_bel (by repeat' (first | (with_reducible exact Below.refl _ _) | (with_reducible assumption) | (with_reducible refine bel_set ?_ (by (try dsimp only); omega) _) | (with_reducible refine bel_alloc ?_ _) | (with_reducible refine bel_drewN ?_ _) | (with_reducible refine bel_drew ?_))) how13)) s0 i1).mono ?_
  rintro e w14 ⟨A14_, c14_, fp14, rfl, how14, hfr14, hb14⟩
  have st14 : Below w13.heap.size w13 w14 := bel_trans (by repeat' (first | (with_reducible exact Below.refl _ _) | (with_reducible assumption) | (with_reducible refine bel_set ?_ (by (try dsimp only); omega) _) | (with_reducible refine bel_alloc ?_ _) | (with_reducible refine bel_drewN ?_ _) | (with_reducible refine bel_drew ?_))) hb14
  have zz14 : w13.heap.size + 0 ≤ w14.heap.size := by have := hb14.size; (try simp only [World.size_alloc] at this); omega
  have vw_14 : Below w.heap.size w w14 := bel_trans vw_13 st14
  have vW0_14 : Below w11.heap.size w11 w14 := bel_trans vW0_13 st14
  have vM0_14 : Below w11.heap.size w11 w14 := bel_trans vM0_13 st14
  have frH0 : FrI (w13.heap.size + 0) w14.heap.size fp14 := hfr14.mono (by (try simp only [World.size_alloc]); omega) (Nat.le_refl _)
  have vH0_14 : Below w14.heap.size w14 w14 := Below.refl _ _
  go_wp2_with fail
  refine (C_laws_eqPendingInterestS _ _ _ (f_ExpirePending x0 a1) (Ty.ow_rd (Ty.ow_bel (by repeat' (first | (with_reducible exact Below.refl _ _) | (with_reducible assumption) | (with_reducible refine bel_set ?_ (by (try dsimp only); omega) _) | (with_reducible refine bel_alloc ?_ _) | (with_reducible refine bel_drewN ?_ _) | (with_reducible refine bel_drew ?_))) how14)) (Ty.ow_rd (Ty.ow_bel (by repeat' (first | (with_reducible exact Below.refl _ _) | (with_reducible assumption) | (with_reducible refine bel_set ?_ (by (try dsimp only); omega) _) | (with_reducible refine bel_alloc ?_ _) | (with_reducible refine bel_drewN ?_ _) | (with_reducible refine bel_drew ?_))) howW0_11))).mono ?_
  rintro e w15 ⟨rfl, hb15⟩
  have st15 : Below w14.heap.size w14 w15 := bel_trans (by repeat' (first | (with_reducible exact Below.refl _ _) | (with_reducible assumption) | (with_reducible refine bel_set ?_ (by (try dsimp only); omega) _) | (with_reducible refine bel_alloc ?_ _) | (with_reducible refine bel_drewN ?_ _) | (with_reducible refine bel_drew ?_))) hb15
  have zz15 : w14.heap.size + 0 ≤ w15.heap.size := by have := hb15.size; (try simp only [World.size_alloc] at this); omega
  have vw_15 : Below w.heap.size w w15 := bel_trans vw_14 st15
  have vW0_15 : Below w11.heap.size w11 w15 := bel_trans vW0_14 st15
  have vM0_15 : Below w11.heap.size w11 w15 := bel_trans vM0_14 st15
  have vH0_15 : Below w14.heap.size w14 w15 := st15
  go_wp2_with fail
  refine (C_laws_heldPendingInterestS _ _ (f_ExpirePending x0 a1) 1 (Ty.ow_rd (Ty.ow_bel (by repeat' (first | (with_reducible exact Below.refl _ _) | (with_reducible assumption) | (with_reducible refine bel_set ?_ (by (try dsimp only); omega) _) | (with_reducible refine bel_alloc ?_ _) | (with_reducible refine bel_drewN ?_ _) | (with_reducible refine bel_drew ?_))) hm11)) (by omega) (by omega)).mono ?_
  rintro e w16 ⟨rfl, hb16⟩
  have st16 : Below w15.heap.size w15 w16 := bel_trans (by repeat' (first | (with_reducible exact Below.refl _ _) | (with_reducible assumption) | (with_reducible refine bel_set ?_ (by (try dsimp only); omega) _) | (with_reducible refine bel_alloc ?_ _) | (with_reducible refine bel_drewN ?_ _) | (with_reducible refine bel_drew ?_))) hb16
  have zz16 : w15.heap.size + 0 ≤ w16.heap.size := by have := hb16.size; (try simp only [World.size_alloc] at this); omega
  have vw_16 : Below w.heap.size w w16 := bel_trans vw_15 st16
  have vW0_16 : Below w11.heap.size w11 w16 := bel_trans vW0_15 st16
  have vM0_16 : Below w11.heap.size w11 w16 := bel_trans vM0_15 st16
  have vH0_16 : Below w14.heap.size w14 w16 := bel_trans vH0_15 st16
  go_wp2_with fail
  go_ret
  exact ⟨rfl, vw_16⟩
end Go.Proofs.Ytpjnidfdkggpfaa
