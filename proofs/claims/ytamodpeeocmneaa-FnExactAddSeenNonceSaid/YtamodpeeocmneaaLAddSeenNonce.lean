/- The law FnExactAddSeenNonce, walked out of the contracts. Printed by a program. -/
import Derived.Test.YtamodpeeocmneaaAsn
import Derived.Deep.RegionHeld3
namespace Go.Proofs.Ytamodpeeocmneaa
open Go.RowKit
set_option linter.unusedVariables false
set_option linter.unusedSimpArgs false

set_option maxRecDepth 100000 in
set_option maxHeartbeats 4000000 in
theorem L_AddSeenNonce (w : World) (v0 : Value) (x0 : Ty.D (.sl tSeenNonce)) (h0 : Ty.rd w (.sl tSeenNonce) [v0] x0) (cs1 : List Value) (x1 : Ty.D (.sl .str)) (h1 : Ty.rd w (.sl .str) cs1 x1) (a2 : Int) (i2 : -9223372036854775808 ≤ a2 ∧ a2 ≤ 9223372036854775807) :
    Calls Try.prog 8 #[v0, .agg cs1.toArray, .int .i64 a2] w (RetB w true) := by
  obtain ⟨A10, c10, rfl⟩ := Ty.rd_slv h1
  go_enter Try.func8, Try.ntmps8
  go_wp2_with fail
  refine (C_laws_szSeenNonceS _ _ x0 1048576 (Ty.rd_below (by repeat' (first | (with_reducible exact Below.refl _ _) | (with_reducible assumption) | (with_reducible refine bel_set ?_ (by (try dsimp only); omega) _) | (with_reducible refine bel_alloc ?_ _) | (with_reducible refine bel_drewN ?_ _) | (with_reducible refine bel_drew ?_))) h0) (by omega) (by omega)).mono ?_
  rintro e w1 ⟨r1, rfl, hr1, hb1⟩
  have st1 : Below w.heap.size w w1 := bel_trans (by repeat' (first | (with_reducible exact Below.refl _ _) | (with_reducible assumption) | (with_reducible refine bel_set ?_ (by (try dsimp only); omega) _) | (with_reducible refine bel_alloc ?_ _) | (with_reducible refine bel_drewN ?_ _) | (with_reducible refine bel_drew ?_))) hb1
  have zz1 : w.heap.size + 1 ≤ w1.heap.size := by have := hb1.size; (try simp only [World.size_alloc] at this); omega
  have vw_1 : Below w.heap.size w w1 := st1
  have za1_1 : w.heap.size < w1.heap.size := by omega
  have ea1_0_1 : w1.cell? ⟨w.heap.size, 0, none⟩ = some (.slice A10 (List.length x1) c10) := (hb1.cell (by (try simp only [World.size_alloc]); (try dsimp only); omega)).trans ((cell_new w 24 #[.slice A10 (List.length x1) c10] 0 (by first | rfl | (simp only [World.size_alloc]))) : _ = some (Value.slice A10 (List.length x1) c10))
  rcases hr1 with rfl | ⟨p1, q1⟩
  · go_wp2
    go_ret
    exact ⟨rfl, vw_1⟩
  go_wp2_with fail
  refine (C_laws_szName _ _ x1 r1 (Ty.rd_below (by repeat' (first | (with_reducible exact Below.refl _ _) | (with_reducible assumption) | (with_reducible refine bel_set ?_ (by (try dsimp only); omega) _) | (with_reducible refine bel_alloc ?_ _) | (with_reducible refine bel_drewN ?_ _) | (with_reducible refine bel_drew ?_))) h1) p1 (by omega)).mono ?_
  rintro e w2 ⟨r2, rfl, hr2, hb2⟩
  have st2 : Below w1.heap.size w1 w2 := bel_trans (by repeat' (first | (with_reducible exact Below.refl _ _) | (with_reducible assumption) | (with_reducible refine bel_set ?_ (by (try dsimp only); omega) _) | (with_reducible refine bel_alloc ?_ _) | (with_reducible refine bel_drewN ?_ _) | (with_reducible refine bel_drew ?_))) hb2
  have zz2 : w1.heap.size + 0 ≤ w2.heap.size := by have := hb2.size; (try simp only [World.size_alloc] at this); omega
  have vw_2 : Below w.heap.size w w2 := bel_trans vw_1 st2
  have za1_2 : w.heap.size < w2.heap.size := by omega
  have ea1_0_2 : w2.cell? ⟨w.heap.size, 0, none⟩ = some (.slice A10 (List.length x1) c10) := (hb2.cell (by (try simp only [World.size_alloc]); (try dsimp only); omega)).trans ea1_0_1
  clear ea1_0_1
  rcases hr2 with rfl | ⟨p2, q2⟩
  · go_wp2
    go_ret
    exact ⟨rfl, vw_2⟩
  have s0 : Ty.bulk (.sl tSeenNonce) x0 ≤ 1048576 := by omega
  have s1 : Ty.bulk (.sl .str) x1 ≤ 1048576 := by omega
  have HSp : Hid (∀ W, Below w2.heap.size w2 W → Below w2.heap.size w2 W ∧ W.cell? ⟨w.heap.size, 0, none⟩ = some (.slice A10 (List.length x1) c10)) := fun W hW => ⟨hW, (hW.cell za1_2).trans ea1_0_2⟩
  have hvp : Below w2.heap.size w2 w2 := Below.refl _ _
  go_wp2_with fail
  go_region_held3 (fun W => Below w2.heap.size w2 W ∧ W.cell? ⟨w.heap.size, 0, none⟩ = some (.slice A10 (List.length x1) c10)) (exact HSp.out _ (by repeat' (first | (with_reducible exact Below.refl _ _) | (with_reducible assumption) | (with_reducible refine bel_set ?_ (by (try dsimp only); omega) _) | (with_reducible refine bel_alloc ?_ _) | (with_reducible refine bel_drewN ?_ _) | (with_reducible refine bel_drew ?_))))
    (first
      | (go_at_call 46; (with_reducible refine (C_laws_toSeenNonceS _ _ x0 (Ty.rd_below (by repeat' (first | (with_reducible exact Below.refl _ _) | (with_reducible assumption) | (with_reducible refine bel_set ?_ (by (try dsimp only); omega) _) | (with_reducible refine bel_alloc ?_ _) | (with_reducible refine bel_drewN ?_ _) | (with_reducible refine bel_drew ?_))) h0) s0).mono ?_); rintro e wp0 ⟨Ap0, cp0, fpp0, rfl, howp0, hfrp0, hbp0⟩; have hvp0 : Below w2.heap.size w2 wp0 := bel_trans (by repeat' (first | (with_reducible exact Below.refl _ _) | (with_reducible assumption) | (with_reducible refine bel_set ?_ (by (try dsimp only); omega) _) | (with_reducible refine bel_alloc ?_ _) | (with_reducible refine bel_drewN ?_ _) | (with_reducible refine bel_drew ?_))) hbp0; have vwp0 : Below w.heap.size w wp0 := bel_trans (by repeat' (first | (with_reducible exact Below.refl _ _) | (with_reducible assumption) | (with_reducible refine bel_set ?_ (by (try dsimp only); omega) _) | (with_reducible refine bel_alloc ?_ _) | (with_reducible refine bel_drewN ?_ _) | (with_reducible refine bel_drew ?_))) hbp0)
      | (go_at_call 35; (with_reducible refine (C_laws_toName _ _ x1 (Ty.rd_below (by repeat' (first | (with_reducible exact Below.refl _ _) | (with_reducible assumption) | (with_reducible refine bel_set ?_ (by (try dsimp only); omega) _) | (with_reducible refine bel_alloc ?_ _) | (with_reducible refine bel_drewN ?_ _) | (with_reducible refine bel_drew ?_))) h1) s1).mono ?_); rintro e wp1 ⟨csp1, fpp1, rfl, howp1, hfrp1, hbp1⟩; have hvp1 : Below w2.heap.size w2 wp1 := bel_trans (by repeat' (first | (with_reducible exact Below.refl _ _) | (with_reducible assumption) | (with_reducible refine bel_set ?_ (by (try dsimp only); omega) _) | (with_reducible refine bel_alloc ?_ _) | (with_reducible refine bel_drewN ?_ _) | (with_reducible refine bel_drew ?_))) hbp1; have vwp1 : Below w.heap.size w wp1 := bel_trans (by repeat' (first | (with_reducible exact Below.refl _ _) | (with_reducible assumption) | (with_reducible refine bel_set ?_ (by (try dsimp only); omega) _) | (with_reducible refine bel_alloc ?_ _) | (with_reducible refine bel_drewN ?_ _) | (with_reducible refine bel_drew ?_))) hbp1; have yp0_p1 : Below wp0.heap.size wp0 wp1 := bel_trans (by repeat' (first | (with_reducible exact Below.refl _ _) | (with_reducible assumption) | (with_reducible refine bel_set ?_ (by (try dsimp only); omega) _) | (with_reducible refine bel_alloc ?_ _) | (with_reducible refine bel_drewN ?_ _) | (with_reducible refine bel_drew ?_))) hbp1)
      | (go_at_call 45; (with_reducible refine (C_spec_AddSeenNonce _ _ x0 _ x1 a2 (Ty.rd_below (by repeat' (first | (with_reducible exact Below.refl _ _) | (with_reducible assumption) | (with_reducible refine bel_set ?_ (by (try dsimp only); omega) _) | (with_reducible refine bel_alloc ?_ _) | (with_reducible refine bel_drewN ?_ _) | (with_reducible refine bel_drew ?_))) (Ty.ow_rd howp0)) (Ty.rd_below (by repeat' (first | (with_reducible exact Below.refl _ _) | (with_reducible assumption) | (with_reducible refine bel_set ?_ (by (try dsimp only); omega) _) | (with_reducible refine bel_alloc ?_ _) | (with_reducible refine bel_drewN ?_ _) | (with_reducible refine bel_drew ?_))) (Ty.ow_rd howp1)) s0 s1 i2).mono ?_); rintro e w3 ⟨A3_, c3_, fp3, rfl, how3, hfr3, hb3⟩; have hvpz : Below w2.heap.size w2 w3 := bel_trans (by repeat' (first | (with_reducible exact Below.refl _ _) | (with_reducible assumption) | (with_reducible refine bel_set ?_ (by (try dsimp only); omega) _) | (with_reducible refine bel_alloc ?_ _) | (with_reducible refine bel_drewN ?_ _) | (with_reducible refine bel_drew ?_))) hb3))
  have st3 : Below w2.heap.size w2 w3 := hvpz
  have zz3 : w2.heap.size ≤ w3.heap.size := st3.size
  have vw_3 : Below w.heap.size w w3 := bel_trans vw_2 st3
  have za1_3 : w.heap.size < w3.heap.size := by omega
  have ea1_0_3 : w3.cell? ⟨w.heap.size, 0, none⟩ = some (.slice A10 (List.length x1) c10) := (st3.cell za1_2).trans ea1_0_2
  clear ea1_0_2
  have hfr3 := hfr3.mono (Nat.le_trans hvp1.size (Nat.le_refl _)) (Nat.le_refl _)
  have frW0 : FrI (w2.heap.size + 0) w3.heap.size fp3 := hfr3.mono (by (try simp only [World.size_alloc]); omega) (Nat.le_refl _)
  have vW0_3 : Below w3.heap.size w3 w3 := Below.refl _ _
  go_wp2_with fail
  refine (C_laws_toSeenNonceS _ _ x0 (Ty.rd_below (by repeat' (first | (with_reducible exact Below.refl _ _) | (with_reducible assumption) | (with_reducible refine bel_set ?_ (by (try dsimp only); omega) _) | (with_reducible refine bel_alloc ?_ _) | (with_reducible refine bel_drewN ?_ _) | (with_reducible refine bel_drew ?_))) h0) s0).mono ?_
  rintro e w4 ⟨A4_, c4_, fp4, rfl, how4, hfr4, hb4⟩
  have st4 : Below w3.heap.size w3 w4 := bel_trans (by repeat' (first | (with_reducible exact Below.refl _ _) | (with_reducible assumption) | (with_reducible refine bel_set ?_ (by (try dsimp only); omega) _) | (with_reducible refine bel_alloc ?_ _) | (with_reducible refine bel_drewN ?_ _) | (with_reducible refine bel_drew ?_))) hb4
  have zz4 : w3.heap.size + 0 ≤ w4.heap.size := by have := hb4.size; (try simp only [World.size_alloc] at this); omega
  have vw_4 : Below w.heap.size w w4 := bel_trans vw_3 st4
  have vW0_4 : Below w3.heap.size w3 w4 := st4
  have za1_4 : w.heap.size < w4.heap.size := by omega
  have ea1_0_4 : w4.cell? ⟨w.heap.size, 0, none⟩ = some (.slice A10 (List.length x1) c10) := (hb4.cell (by (try simp only [World.size_alloc]); (try dsimp only); omega)).trans ea1_0_3
  clear ea1_0_3
  have frX0 : FrI (w3.heap.size + 0) w4.heap.size fp4 := hfr4.mono (by (try simp only [World.size_alloc]); omega) (Nat.le_refl _)
  have vX0_4 : Below w4.heap.size w4 w4 := Below.refl _ _
  go_wp2_with fail
  refine (C_laws_toName _ _ x1 (Ty.rd_below (by repeat' (first | (with_reducible exact Below.refl _ _) | (with_reducible assumption) | (with_reducible refine bel_set ?_ (by (try dsimp only); omega) _) | (with_reducible refine bel_alloc ?_ _) | (with_reducible refine bel_drewN ?_ _) | (with_reducible refine bel_drew ?_))) h1) s1).mono ?_
  rintro e w5 ⟨cs5_, fp5, rfl, how5, hfr5, hb5⟩
  obtain ⟨A5_0, c5_0, rfl⟩ := Ty.ow_slv how5
  have st5 : Below w4.heap.size w4 w5 := bel_trans (by repeat' (first | (with_reducible exact Below.refl _ _) | (with_reducible assumption) | (with_reducible refine bel_set ?_ (by (try dsimp only); omega) _) | (with_reducible refine bel_alloc ?_ _) | (with_reducible refine bel_drewN ?_ _) | (with_reducible refine bel_drew ?_))) hb5
  have zz5 : w4.heap.size + 0 ≤ w5.heap.size := by have := hb5.size; (try simp only [World.size_alloc] at this); omega
  have vw_5 : Below w.heap.size w w5 := bel_trans vw_4 st5
  have vW0_5 : Below w3.heap.size w3 w5 := bel_trans vW0_4 st5
  have vX0_5 : Below w4.heap.size w4 w5 := st5
  have za1_5 : w.heap.size < w5.heap.size := by omega
  have ea1_0_5 : w5.cell? ⟨w.heap.size, 0, none⟩ = some (.slice A10 (List.length x1) c10) := (hb5.cell (by (try simp only [World.size_alloc]); (try dsimp only); omega)).trans ea1_0_4
  clear ea1_0_4
  have frX1 : FrI (w4.heap.size + 0) w5.heap.size fp5 := hfr5.mono (by (try simp only [World.size_alloc]); omega) (Nat.le_refl _)
  have vX1_5 : Below w5.heap.size w5 w5 := Below.refl _ _
  go_wp2_with fail
  refine (C_impl_AddSeenNonce _ _ x0 _ x1 a2 (Ty.ow_rd (Ty.ow_bel (by repeat' (first | (with_reducible exact Below.refl _ _) | (with_reducible assumption) | (with_reducible refine bel_set ?_ (by (try dsimp only); omega) _) | (with_reducible refine bel_alloc ?_ _) | (with_reducible refine bel_drewN ?_ _) | (with_reducible refine bel_drew ?_))) how4)) (Ty.ow_rd (Ty.ow_bel (by repeat' (first | (with_reducible exact Below.refl _ _) | (with_reducible assumption) | (with_reducible refine bel_set ?_ (by (try dsimp only); omega) _) | (with_reducible refine bel_alloc ?_ _) | (with_reducible refine bel_drewN ?_ _) | (with_reducible refine bel_drew ?_))) how5)) s0 s1 i2).mono ?_
  rintro e w6 ⟨A6_, c6_, fp6, rfl, how6, hfr6, hb6⟩
  have st6 : Below w5.heap.size w5 w6 := bel_trans (by repeat' (first | (with_reducible exact Below.refl _ _) | (with_reducible assumption) | (with_reducible refine bel_set ?_ (by (try dsimp only); omega) _) | (with_reducible refine bel_alloc ?_ _) | (with_reducible refine bel_drewN ?_ _) | (with_reducible refine bel_drew ?_))) hb6
  have zz6 : w5.heap.size + 1 ≤ w6.heap.size := by have := hb6.size; (try simp only [World.size_alloc] at this); omega
  have vw_6 : Below w.heap.size w w6 := bel_trans vw_5 st6
  have vW0_6 : Below w3.heap.size w3 w6 := bel_trans vW0_5 st6
  have vX0_6 : Below w4.heap.size w4 w6 := bel_trans vX0_5 st6
  have vX1_6 : Below w5.heap.size w5 w6 := st6
  have za1_6 : w.heap.size < w6.heap.size := by omega
  have ea1_0_6 : w6.cell? ⟨w.heap.size, 0, none⟩ = some (.slice A10 (List.length x1) c10) := (hb6.cell (by (try simp only [World.size_alloc]); (try dsimp only); omega)).trans ((World.cell?_alloc_lt _ _ _ (by (try simp only [World.size_alloc]); (try dsimp only); omega)).trans ea1_0_5)
  have zx1_6 : w5.heap.size < w6.heap.size := by omega
  have ex1_0_6 : w6.cell? ⟨w5.heap.size, 0, none⟩ = some (.slice A5_0 (List.length x1) c5_0) := (hb6.cell (by (try simp only [World.size_alloc]); (try dsimp only); omega)).trans ((cell_new w5 29 #[.slice A5_0 (List.length x1) c5_0] 0 (by first | rfl | (simp only [World.size_alloc]))) : _ = some (Value.slice A5_0 (List.length x1) c5_0))
  clear ea1_0_5
  have frG0 : FrI (w5.heap.size + 1) w6.heap.size fp6 := hfr6.mono (by (try simp only [World.size_alloc]); omega) (Nat.le_refl _)
  have vG0_6 : Below w6.heap.size w6 w6 := Below.refl _ _
  go_wp2_with fail
  refine (C_laws_eqSeenNonceS _ _ _ (f_AddSeenNonce x0 x1 a2) (Ty.ow_rd (Ty.ow_bel (by repeat' (first | (with_reducible exact Below.refl _ _) | (with_reducible assumption) | (with_reducible refine bel_set ?_ (by (try dsimp only); omega) _) | (with_reducible refine bel_alloc ?_ _) | (with_reducible refine bel_drewN ?_ _) | (with_reducible refine bel_drew ?_))) how6)) (Ty.ow_rd (Ty.ow_bel (by repeat' (first | (with_reducible exact Below.refl _ _) | (with_reducible assumption) | (with_reducible refine bel_set ?_ (by (try dsimp only); omega) _) | (with_reducible refine bel_alloc ?_ _) | (with_reducible refine bel_drewN ?_ _) | (with_reducible refine bel_drew ?_))) how3))).mono ?_
  rintro e w7 ⟨rfl, hb7⟩
  have st7 : Below w6.heap.size w6 w7 := bel_trans (by repeat' (first | (with_reducible exact Below.refl _ _) | (with_reducible assumption) | (with_reducible refine bel_set ?_ (by (try dsimp only); omega) _) | (with_reducible refine bel_alloc ?_ _) | (with_reducible refine bel_drewN ?_ _) | (with_reducible refine bel_drew ?_))) hb7
  have zz7 : w6.heap.size + 0 ≤ w7.heap.size := by have := hb7.size; (try simp only [World.size_alloc] at this); omega
  have vw_7 : Below w.heap.size w w7 := bel_trans vw_6 st7
  have vW0_7 : Below w3.heap.size w3 w7 := bel_trans vW0_6 st7
  have vX0_7 : Below w4.heap.size w4 w7 := bel_trans vX0_6 st7
  have vX1_7 : Below w5.heap.size w5 w7 := bel_trans vX1_6 st7
  have vG0_7 : Below w6.heap.size w6 w7 := st7
  have za1_7 : w.heap.size < w7.heap.size := by omega
  have ea1_0_7 : w7.cell? ⟨w.heap.size, 0, none⟩ = some (.slice A10 (List.length x1) c10) := (hb7.cell (by (try simp only [World.size_alloc]); (try dsimp only); omega)).trans ea1_0_6
  have zx1_7 : w5.heap.size < w7.heap.size := by omega
  have ex1_0_7 : w7.cell? ⟨w5.heap.size, 0, none⟩ = some (.slice A5_0 (List.length x1) c5_0) := (hb7.cell (by (try simp only [World.size_alloc]); (try dsimp only); omega)).trans ex1_0_6
  clear ea1_0_6 ex1_0_6
  go_wp2_with fail
  refine (C_laws_toSeenNonceS _ _ x0 (Ty.rd_below (by repeat' (first | (with_reducible exact Below.refl _ _) | (with_reducible assumption) | (with_reducible refine bel_set ?_ (by (try dsimp only); omega) _) | (with_reducible refine bel_alloc ?_ _) | (with_reducible refine bel_drewN ?_ _) | (with_reducible refine bel_drew ?_))) h0) s0).mono ?_
  rintro e w8 ⟨A8_, c8_, fp8, rfl, how8, hfr8, hb8⟩
  have st8 : Below w7.heap.size w7 w8 := bel_trans (by repeat' (first | (with_reducible exact Below.refl _ _) | (with_reducible assumption) | (with_reducible refine bel_set ?_ (by (try dsimp only); omega) _) | (with_reducible refine bel_alloc ?_ _) | (with_reducible refine bel_drewN ?_ _) | (with_reducible refine bel_drew ?_))) hb8
  have zz8 : w7.heap.size + 0 ≤ w8.heap.size := by have := hb8.size; (try simp only [World.size_alloc] at this); omega
  have vw_8 : Below w.heap.size w w8 := bel_trans vw_7 st8
  have vW0_8 : Below w3.heap.size w3 w8 := bel_trans vW0_7 st8
  have vX0_8 : Below w4.heap.size w4 w8 := bel_trans vX0_7 st8
  have vX1_8 : Below w5.heap.size w5 w8 := bel_trans vX1_7 st8
  have vG0_8 : Below w6.heap.size w6 w8 := bel_trans vG0_7 st8
  have za1_8 : w.heap.size < w8.heap.size := by omega
  have ea1_0_8 : w8.cell? ⟨w.heap.size, 0, none⟩ = some (.slice A10 (List.length x1) c10) := (hb8.cell (by (try simp only [World.size_alloc]); (try dsimp only); omega)).trans ea1_0_7
  have zx1_8 : w5.heap.size < w8.heap.size := by omega
  have ex1_0_8 : w8.cell? ⟨w5.heap.size, 0, none⟩ = some (.slice A5_0 (List.length x1) c5_0) := (hb8.cell (by (try simp only [World.size_alloc]); (try dsimp only); omega)).trans ex1_0_7
  clear ea1_0_7 ex1_0_7
  go_wp2_with fail
  refine (C_laws_eqSeenNonceS _ _ _ x0 (Ty.ow_rd (Ty.ow_bel (by repeat' (first | (with_reducible exact Below.refl _ _) | (with_reducible assumption) | (with_reducible refine bel_set ?_ (by (try dsimp only); omega) _) | (with_reducible refine bel_alloc ?_ _) | (with_reducible refine bel_drewN ?_ _) | (with_reducible refine bel_drew ?_))) how4)) (Ty.ow_rd how8)).mono ?_
  rintro e w9 ⟨rfl, hb9⟩
  have st9 : Below w8.heap.size w8 w9 := bel_trans (by repeat' (first | (with_reducible exact Below.refl _ _) | (with_reducible assumption) | (with_reducible refine bel_set ?_ (by (try dsimp only); omega) _) | (with_reducible refine bel_alloc ?_ _) | (with_reducible refine bel_drewN ?_ _) | (with_reducible refine bel_drew ?_))) hb9
  have zz9 : w8.heap.size + 0 ≤ w9.heap.size := by have := hb9.size; (try simp only [World.size_alloc] at this); omega
  have vw_9 : Below w.heap.size w w9 := bel_trans vw_8 st9
  have vW0_9 : Below w3.heap.size w3 w9 := bel_trans vW0_8 st9
  have vX0_9 : Below w4.heap.size w4 w9 := bel_trans vX0_8 st9
  have vX1_9 : Below w5.heap.size w5 w9 := bel_trans vX1_8 st9
  have vG0_9 : Below w6.heap.size w6 w9 := bel_trans vG0_8 st9
  have za1_9 : w.heap.size < w9.heap.size := by omega
  have ea1_0_9 : w9.cell? ⟨w.heap.size, 0, none⟩ = some (.slice A10 (List.length x1) c10) := (hb9.cell (by (try simp only [World.size_alloc]); (try dsimp only); omega)).trans ea1_0_8
  have zx1_9 : w5.heap.size < w9.heap.size := by omega
  have ex1_0_9 : w9.cell? ⟨w5.heap.size, 0, none⟩ = some (.slice A5_0 (List.length x1) c5_0) := (hb9.cell (by (try simp only [World.size_alloc]); (try dsimp only); omega)).trans ex1_0_8
  clear ea1_0_8 ex1_0_8
  have HSq1 : Hid (∀ W, Below w9.heap.size w9 W → Below w9.heap.size w9 W ∧ W.cell? ⟨w.heap.size, 0, none⟩ = some (.slice A10 (List.length x1) c10) ∧ W.cell? ⟨w5.heap.size, 0, none⟩ = some (.slice A5_0 (List.length x1) c5_0)) := fun W hW => ⟨hW, (hW.cell za1_9).trans ea1_0_9, (hW.cell zx1_9).trans ex1_0_9⟩
  go_wp2_with fail
  go_region_held3 (fun W => Below w9.heap.size w9 W ∧ W.cell? ⟨w.heap.size, 0, none⟩ = some (.slice A10 (List.length x1) c10) ∧ W.cell? ⟨w5.heap.size, 0, none⟩ = some (.slice A5_0 (List.length x1) c5_0)) (exact HSq1.out _ (by repeat' (first | (with_reducible exact Below.refl _ _) | (with_reducible assumption) | (with_reducible refine bel_set ?_ (by (try dsimp only); omega) _) | (with_reducible refine bel_alloc ?_ _) | (with_reducible refine bel_drewN ?_ _) | (with_reducible refine bel_drew ?_))))
    (first
      | (go_at_call 35; (with_reducible refine (C_laws_toName _ _ x1 (Ty.rd_below (by repeat' (first | (with_reducible exact Below.refl _ _) | (with_reducible assumption) | (with_reducible refine bel_set ?_ (by (try dsimp only); omega) _) | (with_reducible refine bel_alloc ?_ _) | (with_reducible refine bel_drewN ?_ _) | (with_reducible refine bel_drew ?_))) h1) s1).mono ?_); rintro e wq ⟨csq, fpq, rfl, howq, hfrq, hbq⟩; have hvq : Below w9.heap.size w9 wq := bel_trans (by repeat' (first | (with_reducible exact Below.refl _ _) | (with_reducible assumption) | (with_reducible refine bel_set ?_ (by (try dsimp only); omega) _) | (with_reducible refine bel_alloc ?_ _) | (with_reducible refine bel_drewN ?_ _) | (with_reducible refine bel_drew ?_))) hbq; have hxq : Below w5.heap.size w5 wq := bel_trans vX1_9 hvq)
      | (go_at_call 38; (with_reducible refine (C_laws_eqName _ _ _ x1 (Ty.rd_below hxq (Ty.ow_rd how5)) (Ty.ow_rd howq)).mono ?_); rintro e w10 ⟨rfl, hb10⟩; have hvz : Below w9.heap.size w9 w10 := bel_trans hvq hb10))
  have st10 : Below w9.heap.size w9 w10 := hvz
  clear hvz
  have zz10 : w9.heap.size ≤ w10.heap.size := st10.size
  have vw_10 : Below w.heap.size w w10 := bel_trans vw_9 st10
  have vW0_10 : Below w3.heap.size w3 w10 := bel_trans vW0_9 st10
  have vX0_10 : Below w4.heap.size w4 w10 := bel_trans vX0_9 st10
  have vX1_10 : Below w5.heap.size w5 w10 := bel_trans vX1_9 st10
  have vG0_10 : Below w6.heap.size w6 w10 := bel_trans vG0_9 st10
  have za1_10 : w.heap.size < w10.heap.size := by omega
  have ea1_0_10 : w10.cell? ⟨w.heap.size, 0, none⟩ = some (.slice A10 (List.length x1) c10) := (st10.cell za1_9).trans ea1_0_9
  have zx1_10 : w5.heap.size < w10.heap.size := by omega
  have ex1_0_10 : w10.cell? ⟨w5.heap.size, 0, none⟩ = some (.slice A5_0 (List.length x1) c5_0) := (st10.cell zx1_9).trans ex1_0_9
  clear ea1_0_9 ex1_0_9
  have cb0 : Ty.cnt (.sl tSeenNonce) x0 ≤ 100000000 := Nat.le_trans (Ty.cntv_le (.sl tSeenNonce) x0) (Nat.le_trans (Nat.mul_le_mul_left _ s0) (by decide))
  have cb1 : Ty.cntv (.sl .str) x1 ≤ 100000000 := Nat.le_trans (Ty.cntv_le (.sl .str) x1) (Nat.le_trans (Nat.mul_le_mul_left _ s1) (by decide))
  have cbG : Ty.cnt (.sl tSeenNonce) (f_AddSeenNonce x0 x1 a2) ≤ 100000000000 := N_AddSeenNonce s0 s1
  go_wp2_with fail
  refine (C_laws_markSeenNonceS _ _ x0 fp4 (1) (Ty.ow_bel (by repeat' (first | (with_reducible exact Below.refl _ _) | (with_reducible assumption) | (with_reducible refine bel_set ?_ (by (try dsimp only); omega) _) | (with_reducible refine bel_alloc ?_ _) | (with_reducible refine bel_drewN ?_ _) | (with_reducible refine bel_drew ?_))) how4) frX0.1 (by omega) (by omega)).mono ?_
  rintro e w11 ⟨rfl, hm11, hk11⟩
  have zz11 : w10.heap.size ≤ w11.heap.size := hk11.size
  have szl11 : w.heap.size ≤ w3.heap.size := vw_3.size
  have vw_11 : Below w.heap.size w w11 := vw_10.trans (hk11.below vw_10.size (fun y hy => by have := frX0.2 y hy; omega))
  have howW0_11 : Ty.ow w11 (.sl tSeenNonce) [.slice A3_ (List.length (f_AddSeenNonce x0 x1 a2)) c3_] (f_AddSeenNonce x0 x1 a2) fp3 := Ty.ow_keep (fun y hy => (hk11.block y (Nat.lt_of_lt_of_le (Ty.ow_lt how3 y hy) vW0_10.size) (fun hy2 => by have := frW0.2 y hy; have := frX0.2 y hy2; omega)).trans (vW0_10.block y (Ty.ow_lt how3 y hy))) how3
  have vW0_11 : Below w11.heap.size w11 w11 := Below.refl _ _
  have howX1_11 : Ty.ow w11 (.sl .str) [.slice A5_0 (List.length x1) c5_0] x1 fp5 := Ty.ow_keep (fun y hy => (hk11.block y (Nat.lt_of_lt_of_le (Ty.ow_lt how5 y hy) vX1_10.size) (fun hy2 => by have := frX1.2 y hy; have := frX0.2 y hy2; omega)).trans (vX1_10.block y (Ty.ow_lt how5 y hy))) how5
  have vX1_11 : Below w11.heap.size w11 w11 := Below.refl _ _
  have howG0_11 : Ty.ow w11 (.sl tSeenNonce) [.slice A6_ (List.length (f_AddSeenNonce x0 x1 a2)) c6_] (f_AddSeenNonce x0 x1 a2) fp6 := Ty.ow_keep (fun y hy => (hk11.block y (Nat.lt_of_lt_of_le (Ty.ow_lt how6 y hy) vG0_10.size) (fun hy2 => by have := frG0.2 y hy; have := frX0.2 y hy2; omega)).trans (vG0_10.block y (Ty.ow_lt how6 y hy))) how6
  have vG0_11 : Below w11.heap.size w11 w11 := Below.refl _ _
  have za1_11 : w.heap.size < w11.heap.size := by omega
  have hBa1_11 : w11.heap[w.heap.size]? = w10.heap[w.heap.size]? := hk11.block _ za1_10 (fun hy => by have := frX0.2 _ hy; omega)
  have ea1_0_11 : w11.cell? ⟨w.heap.size, 0, none⟩ = some (.slice A10 (List.length x1) c10) := (cell_of_heap hBa1_11 0).trans ea1_0_10
  have zx1_11 : w5.heap.size < w11.heap.size := by omega
  have hBx1_11 : w11.heap[w5.heap.size]? = w10.heap[w5.heap.size]? := hk11.block _ zx1_10 (fun hy => by have := frX0.2 _ hy; omega)
  have ex1_0_11 : w11.cell? ⟨w5.heap.size, 0, none⟩ = some (.slice A5_0 (List.length x1) c5_0) := (cell_of_heap hBx1_11 0).trans ex1_0_10
  clear ea1_0_10 ex1_0_10
  go_wp2_with fail
  refine (C_laws_markName _ _ x1 fp5 (1 + ((Ty.cnt (.sl tSeenNonce) x0 : Nat) : Int)) (Ty.ow_bel (by repeat' (first | (with_reducible exact Below.refl _ _) | (with_reducible assumption) | (with_reducible refine bel_set ?_ (by (try dsimp only); omega) _) | (with_reducible refine bel_alloc ?_ _) | (with_reducible refine bel_drewN ?_ _) | (with_reducible refine bel_drew ?_))) howX1_11) frX1.1 (by omega) (by omega)).mono ?_
  rintro e w12 ⟨rfl, hm12, hk12⟩
  have zz12 : w11.heap.size ≤ w12.heap.size := hk12.size
  have szl12 : w.heap.size ≤ w4.heap.size := vw_4.size
  have vw_12 : Below w.heap.size w w12 := vw_11.trans (hk12.below vw_11.size (fun y hy => by have := frX1.2 y hy; omega))
  have howW0_12 : Ty.ow w12 (.sl tSeenNonce) [.slice A3_ (List.length (f_AddSeenNonce x0 x1 a2)) c3_] (f_AddSeenNonce x0 x1 a2) fp3 := Ty.ow_keep (fun y hy => (hk12.block y (Nat.lt_of_lt_of_le (Ty.ow_lt howW0_11 y hy) vW0_11.size) (fun hy2 => by have := frW0.2 y hy; have := frX1.2 y hy2; omega)).trans (vW0_11.block y (Ty.ow_lt howW0_11 y hy))) howW0_11
  have vW0_12 : Below w12.heap.size w12 w12 := Below.refl _ _
  have howG0_12 : Ty.ow w12 (.sl tSeenNonce) [.slice A6_ (List.length (f_AddSeenNonce x0 x1 a2)) c6_] (f_AddSeenNonce x0 x1 a2) fp6 := Ty.ow_keep (fun y hy => (hk12.block y (Nat.lt_of_lt_of_le (Ty.ow_lt howG0_11 y hy) vG0_11.size) (fun hy2 => by have := frG0.2 y hy; have := frX1.2 y hy2; omega)).trans (vG0_11.block y (Ty.ow_lt howG0_11 y hy))) howG0_11
  have vG0_12 : Below w12.heap.size w12 w12 := Below.refl _ _
  have za1_12 : w.heap.size < w12.heap.size := by omega
  have hBa1_12 : w12.heap[w.heap.size]? = w11.heap[w.heap.size]? := hk12.block _ za1_11 (fun hy => by have := frX1.2 _ hy; omega)
  have ea1_0_12 : w12.cell? ⟨w.heap.size, 0, none⟩ = some (.slice A10 (List.length x1) c10) := (cell_of_heap hBa1_12 0).trans ea1_0_11
  have zx1_12 : w5.heap.size < w12.heap.size := by omega
  have hBx1_12 : w12.heap[w5.heap.size]? = w11.heap[w5.heap.size]? := hk12.block _ zx1_11 (fun hy => by have := frX1.2 _ hy; omega)
  have ex1_0_12 : w12.cell? ⟨w5.heap.size, 0, none⟩ = some (.slice A5_0 (List.length x1) c5_0) := (cell_of_heap hBx1_12 0).trans ex1_0_11
  clear ea1_0_11 ex1_0_11
  go_wp2_with fail
  refine (C_laws_eqSeenNonceS _ _ _ (f_AddSeenNonce x0 x1 a2) (Ty.ow_rd (Ty.ow_bel (by repeat' (first | (with_reducible exact Below.refl _ _) | (with_reducible assumption) | (with_reducible refine bel_set ?_ (by (try dsimp only); omega) _) | (with_reducible refine bel_alloc ?_ _) | (with_reducible refine bel_drewN ?_ _) | (with_reducible refine bel_drew ?_))) howG0_12)) (Ty.ow_rd (Ty.ow_bel (by repeat' (first | (with_reducible exact Below.refl _ _) | (with_reducible assumption) | (with_reducible refine bel_set ?_ (by (try dsimp only); omega) _) | (with_reducible refine bel_alloc ?_ _) | (with_reducible refine bel_drewN ?_ _) | (with_reducible refine bel_drew ?_))) howW0_12))).mono ?_
  rintro e w13 ⟨rfl, hb13⟩
  have st13 : Below w12.heap.size w12 w13 := bel_trans (by repeat' (first | (with_reducible exact Below.refl _ _) | (with_reducible assumption) | (with_reducible refine bel_set ?_ (by (try dsimp only); omega) _) | (with_reducible refine bel_alloc ?_ _) | (with_reducible refine bel_drewN ?_ _) | (with_reducible refine bel_drew ?_))) hb13
  have zz13 : w12.heap.size + 0 ≤ w13.heap.size := by have := hb13.size; (try simp only [World.size_alloc] at this); omega
  have vw_13 : Below w.heap.size w w13 := bel_trans vw_12 st13
  have vW0_13 : Below w12.heap.size w12 w13 := st13
  have vG0_13 : Below w12.heap.size w12 w13 := st13
  have za1_13 : w.heap.size < w13.heap.size := by omega
  have ea1_0_13 : w13.cell? ⟨w.heap.size, 0, none⟩ = some (.slice A10 (List.length x1) c10) := (hb13.cell (by (try simp only [World.size_alloc]); (try dsimp only); omega)).trans ea1_0_12
  have zx1_13 : w5.heap.size < w13.heap.size := by omega
  have ex1_0_13 : w13.cell? ⟨w5.heap.size, 0, none⟩ = some (.slice A5_0 (List.length x1) c5_0) := (hb13.cell (by (try simp only [World.size_alloc]); (try dsimp only); omega)).trans ex1_0_12
  clear ea1_0_12 ex1_0_12
  go_wp2_with fail
  refine (C_laws_markSeenNonceS _ _ (f_AddSeenNonce x0 x1 a2) fp6 (1) (Ty.ow_bel (by repeat' (first | (with_reducible exact Below.refl _ _) | (with_reducible assumption) | (with_reducible refine bel_set ?_ (by (try dsimp only); omega) _) | (with_reducible refine bel_alloc ?_ _) | (with_reducible refine bel_drewN ?_ _) | (with_reducible refine bel_drew ?_))) howG0_12) frG0.1 (by omega) (by omega)).mono ?_
  rintro e w14 ⟨rfl, hm14, hk14⟩
  have zz14 : w13.heap.size ≤ w14.heap.size := hk14.size
  have szl14 : w.heap.size ≤ w5.heap.size := vw_5.size
  have vw_14 : Below w.heap.size w w14 := vw_13.trans (hk14.below vw_13.size (fun y hy => by have := frG0.2 y hy; omega))
  have howW0_14 : Ty.ow w14 (.sl tSeenNonce) [.slice A3_ (List.length (f_AddSeenNonce x0 x1 a2)) c3_] (f_AddSeenNonce x0 x1 a2) fp3 := Ty.ow_keep (fun y hy => (hk14.block y (Nat.lt_of_lt_of_le (Ty.ow_lt howW0_12 y hy) vW0_13.size) (fun hy2 => by have := frW0.2 y hy; have := frG0.2 y hy2; omega)).trans (vW0_13.block y (Ty.ow_lt howW0_12 y hy))) howW0_12
  have vW0_14 : Below w14.heap.size w14 w14 := Below.refl _ _
  have za1_14 : w.heap.size < w14.heap.size := by omega
  have hBa1_14 : w14.heap[w.heap.size]? = w13.heap[w.heap.size]? := hk14.block _ za1_13 (fun hy => by have := frG0.2 _ hy; omega)
  have ea1_0_14 : w14.cell? ⟨w.heap.size, 0, none⟩ = some (.slice A10 (List.length x1) c10) := (cell_of_heap hBa1_14 0).trans ea1_0_13
  have zx1_14 : w5.heap.size < w14.heap.size := by omega
  have hBx1_14 : w14.heap[w5.heap.size]? = w13.heap[w5.heap.size]? := hk14.block _ zx1_13 (fun hy => by have := frG0.2 _ hy; omega)
  have ex1_0_14 : w14.cell? ⟨w5.heap.size, 0, none⟩ = some (.slice A5_0 (List.length x1) c5_0) := (cell_of_heap hBx1_14 0).trans ex1_0_13
  clear ea1_0_13 ex1_0_13
  have frM : FrI (w5.heap.size + 1) w6.heap.size fp6 := frG0
  have vM0_14 : Below w14.heap.size w14 w14 := Below.refl _ _
  have hqm : ((1 + ((Ty.cnt (.sl tSeenNonce) (f_AddSeenNonce x0 x1 a2) : Nat) : Int) : Int) != 1 + ((Ty.cnt (.sl tSeenNonce) (f_AddSeenNonce x0 x1 a2) : Nat) : Int)) = false := by simp
  go_wp2_with fail
  refine (C_laws_heldSeenNonceS _ _ (f_AddSeenNonce x0 x1 a2) 1 (Ty.ow_rd (Ty.ow_bel (by repeat' (first | (with_reducible exact Below.refl _ _) | (with_reducible assumption) | (with_reducible refine bel_set ?_ (by (try dsimp only); omega) _) | (with_reducible refine bel_alloc ?_ _) | (with_reducible refine bel_drewN ?_ _) | (with_reducible refine bel_drew ?_))) hm14)) (by omega) (by omega)).mono ?_
  rintro e w15 ⟨rfl, hb15⟩
  have st15 : Below w14.heap.size w14 w15 := bel_trans (by repeat' (first | (with_reducible exact Below.refl _ _) | (with_reducible assumption) | (with_reducible refine bel_set ?_ (by (try dsimp only); omega) _) | (with_reducible refine bel_alloc ?_ _) | (with_reducible refine bel_drewN ?_ _) | (with_reducible refine bel_drew ?_))) hb15
  have zz15 : w14.heap.size + 0 ≤ w15.heap.size := by have := hb15.size; (try simp only [World.size_alloc] at this); omega
  have vw_15 : Below w.heap.size w w15 := bel_trans vw_14 st15
  have vW0_15 : Below w14.heap.size w14 w15 := st15
  have vM0_15 : Below w14.heap.size w14 w15 := st15
  have za1_15 : w.heap.size < w15.heap.size := by omega
  have ea1_0_15 : w15.cell? ⟨w.heap.size, 0, none⟩ = some (.slice A10 (List.length x1) c10) := (hb15.cell (by (try simp only [World.size_alloc]); (try dsimp only); omega)).trans ea1_0_14
  have zx1_15 : w5.heap.size < w15.heap.size := by omega
  have ex1_0_15 : w15.cell? ⟨w5.heap.size, 0, none⟩ = some (.slice A5_0 (List.length x1) c5_0) := (hb15.cell (by (try simp only [World.size_alloc]); (try dsimp only); omega)).trans ex1_0_14
  clear ea1_0_14 ex1_0_14
  have HSr : Hid (∀ W, Below w15.heap.size w15 W → Below w15.heap.size w15 W ∧ W.cell? ⟨w.heap.size, 0, none⟩ = some (.slice A10 (List.length x1) c10) ∧ W.cell? ⟨w5.heap.size, 0, none⟩ = some (.slice A5_0 (List.length x1) c5_0)) := fun W hW => ⟨hW, (hW.cell za1_15).trans ea1_0_15, (hW.cell zx1_15).trans ex1_0_15⟩
  have hvr : Below w15.heap.size w15 w15 := Below.refl _ _
  go_wp2_with fail
  go_region_held3 (fun W => Below w15.heap.size w15 W ∧ W.cell? ⟨w.heap.size, 0, none⟩ = some (.slice A10 (List.length x1) c10) ∧ W.cell? ⟨w5.heap.size, 0, none⟩ = some (.slice A5_0 (List.length x1) c5_0)) (exact HSr.out _ (by repeat' (first | (with_reducible exact Below.refl _ _) | (with_reducible assumption) | (with_reducible refine bel_set ?_ (by (try dsimp only); omega) _) | (with_reducible refine bel_alloc ?_ _) | (with_reducible refine bel_drewN ?_ _) | (with_reducible refine bel_drew ?_))))
    (first
      | (go_at_call 46; (with_reducible refine (C_laws_toSeenNonceS _ _ x0 (Ty.rd_below (by repeat' (first | (with_reducible exact Below.refl _ _) | (with_reducible assumption) | (with_reducible refine bel_set ?_ (by (try dsimp only); omega) _) | (with_reducible refine bel_alloc ?_ _) | (with_reducible refine bel_drewN ?_ _) | (with_reducible refine bel_drew ?_))) h0) s0).mono ?_); rintro e wr0 ⟨Ar0, cr0, fpr0, rfl, howr0, hfrr0, hbr0⟩; have hvr0 : Below w15.heap.size w15 wr0 := bel_trans (by repeat' (first | (with_reducible exact Below.refl _ _) | (with_reducible assumption) | (with_reducible refine bel_set ?_ (by (try dsimp only); omega) _) | (with_reducible refine bel_alloc ?_ _) | (with_reducible refine bel_drewN ?_ _) | (with_reducible refine bel_drew ?_))) hbr0; have vwr0 : Below w.heap.size w wr0 := bel_trans (by repeat' (first | (with_reducible exact Below.refl _ _) | (with_reducible assumption) | (with_reducible refine bel_set ?_ (by (try dsimp only); omega) _) | (with_reducible refine bel_alloc ?_ _) | (with_reducible refine bel_drewN ?_ _) | (with_reducible refine bel_drew ?_))) hbr0)
      | (go_at_call 35; (with_reducible refine (C_laws_toName _ _ x1 (Ty.rd_below (by repeat' (first | (with_reducible exact Below.refl _ _) | (with_reducible assumption) | (with_reducible refine bel_set ?_ (by (try dsimp only); omega) _) | (with_reducible refine bel_alloc ?_ _) | (with_reducible refine bel_drewN ?_ _) | (with_reducible refine bel_drew ?_))) h1) s1).mono ?_); rintro e wr1 ⟨csr1, fpr1, rfl, howr1, hfrr1, hbr1⟩; have hvr1 : Below w15.heap.size w15 wr1 := bel_trans (by repeat' (first | (with_reducible exact Below.refl _ _) | (with_reducible assumption) | (with_reducible refine bel_set ?_ (by (try dsimp only); omega) _) | (with_reducible refine bel_alloc ?_ _) | (with_reducible refine bel_drewN ?_ _) | (with_reducible refine bel_drew ?_))) hbr1; have vwr1 : Below w.heap.size w wr1 := bel_trans (by repeat' (first | (with_reducible exact Below.refl _ _) | (with_reducible assumption) | (with_reducible refine bel_set ?_ (by (try dsimp only); omega) _) | (with_reducible refine bel_alloc ?_ _) | (with_reducible refine bel_drewN ?_ _) | (with_reducible refine bel_drew ?_))) hbr1; have yr0_r1 : Below wr0.heap.size wr0 wr1 := bel_trans (by repeat' (first | (with_reducible exact Below.refl _ _) | (with_reducible assumption) | (with_reducible refine bel_set ?_ (by (try dsimp only); omega) _) | (with_reducible refine bel_alloc ?_ _) | (with_reducible refine bel_drewN ?_ _) | (with_reducible refine bel_drew ?_))) hbr1)
      | (go_at_call 47; (with_reducible refine (C_impl_AddSeenNonce _ _ x0 _ x1 a2 (Ty.rd_below (by repeat' (first | (with_reducible exact Below.refl _ _) | (with_reducible assumption) | (with_reducible refine bel_set ?_ (by (try dsimp only); omega) _) | (with_reducible refine bel_alloc ?_ _) | (with_reducible refine bel_drewN ?_ _) | (with_reducible refine bel_drew ?_))) (Ty.ow_rd howr0)) (Ty.rd_below (by repeat' (first | (with_reducible exact Below.refl _ _) | (with_reducible assumption) | (with_reducible refine bel_set ?_ (by (try dsimp only); omega) _) | (with_reducible refine bel_alloc ?_ _) | (with_reducible refine bel_drewN ?_ _) | (with_reducible refine bel_drew ?_))) (Ty.ow_rd howr1)) s0 s1 i2).mono ?_); rintro e w16 ⟨A16_, c16_, fp16, rfl, how16, hfr16, hb16⟩; have hvrz : Below w15.heap.size w15 w16 := bel_trans (by repeat' (first | (with_reducible exact Below.refl _ _) | (with_reducible assumption) | (with_reducible refine bel_set ?_ (by (try dsimp only); omega) _) | (with_reducible refine bel_alloc ?_ _) | (with_reducible refine bel_drewN ?_ _) | (with_reducible refine bel_drew ?_))) hb16))
  have st16 : Below w15.heap.size w15 w16 := hvrz
  have zz16 : w15.heap.size ≤ w16.heap.size := st16.size
  have vw_16 : Below w.heap.size w w16 := bel_trans vw_15 st16
  have vW0_16 : Below w14.heap.size w14 w16 := bel_trans vW0_15 st16
  have vM0_16 : Below w14.heap.size w14 w16 := bel_trans vM0_15 st16
  have za1_16 : w.heap.size < w16.heap.size := by omega
  have ea1_0_16 : w16.cell? ⟨w.heap.size, 0, none⟩ = some (.slice A10 (List.length x1) c10) := (st16.cell za1_15).trans ea1_0_15
  have zx1_16 : w5.heap.size < w16.heap.size := by omega
  have ex1_0_16 : w16.cell? ⟨w5.heap.size, 0, none⟩ = some (.slice A5_0 (List.length x1) c5_0) := (st16.cell zx1_15).trans ex1_0_15
  clear ea1_0_15 ex1_0_15
  have hfr16 := hfr16.mono (Nat.le_trans hvr1.size (Nat.le_refl _)) (Nat.le_refl _)
  have frH0 : FrI (w15.heap.size + 0) w16.heap.size fp16 := hfr16.mono (by (try simp only [World.size_alloc]); omega) (Nat.le_refl _)
  have vH0_16 : Below w16.heap.size w16 w16 := Below.refl _ _
  go_wp2_with fail
  refine (C_laws_eqSeenNonceS _ _ _ (f_AddSeenNonce x0 x1 a2) (Ty.ow_rd (Ty.ow_bel (by repeat' (first | (with_reducible exact Below.refl _ _) | (with_reducible assumption) | (with_reducible refine bel_set ?_ (by (try dsimp only); omega) _) | (with_reducible refine bel_alloc ?_ _) | (with_reducible refine bel_drewN ?_ _) | (with_reducible refine bel_drew ?_))) how16)) (Ty.ow_rd (Ty.ow_bel (by repeat' (first | (with_reducible exact Below.refl _ _) | (with_reducible assumption) | (with_reducible refine bel_set ?_ (by (try dsimp only); omega) _) | (with_reducible refine bel_alloc ?_ _) | (with_reducible refine bel_drewN ?_ _) | (with_reducible refine bel_drew ?_))) howW0_14))).mono ?_
  rintro e w17 ⟨rfl, hb17⟩
  have st17 : Below w16.heap.size w16 w17 := bel_trans (by repeat' (first | (with_reducible exact Below.refl _ _) | (with_reducible assumption) | (with_reducible refine bel_set ?_ (by (try dsimp only); omega) _) | (with_reducible refine bel_alloc ?_ _) | (with_reducible refine bel_drewN ?_ _) | (with_reducible refine bel_drew ?_))) hb17
  have zz17 : w16.heap.size + 0 ≤ w17.heap.size := by have := hb17.size; (try simp only [World.size_alloc] at this); omega
  have vw_17 : Below w.heap.size w w17 := bel_trans vw_16 st17
  have vW0_17 : Below w14.heap.size w14 w17 := bel_trans vW0_16 st17
  have vM0_17 : Below w14.heap.size w14 w17 := bel_trans vM0_16 st17
  have vH0_17 : Below w16.heap.size w16 w17 := st17
  have za1_17 : w.heap.size < w17.heap.size := by omega
  have ea1_0_17 : w17.cell? ⟨w.heap.size, 0, none⟩ = some (.slice A10 (List.length x1) c10) := (hb17.cell (by (try simp only [World.size_alloc]); (try dsimp only); omega)).trans ea1_0_16
  have zx1_17 : w5.heap.size < w17.heap.size := by omega
  have ex1_0_17 : w17.cell? ⟨w5.heap.size, 0, none⟩ = some (.slice A5_0 (List.length x1) c5_0) := (hb17.cell (by (try simp only [World.size_alloc]); (try dsimp only); omega)).trans ex1_0_16
  clear ea1_0_16 ex1_0_16
  go_wp2_with fail
  refine (C_laws_heldSeenNonceS _ _ (f_AddSeenNonce x0 x1 a2) 1 (Ty.ow_rd (Ty.ow_bel (by repeat' (first | (with_reducible exact Below.refl _ _) | (with_reducible assumption) | (with_reducible refine bel_set ?_ (by (try dsimp only); omega) _) | (with_reducible refine bel_alloc ?_ _) | (with_reducible refine bel_drewN ?_ _) | (with_reducible refine bel_drew ?_))) hm14)) (by omega) (by omega)).mono ?_
  rintro e w18 ⟨rfl, hb18⟩
  have st18 : Below w17.heap.size w17 w18 := bel_trans (by repeat' (first | (with_reducible exact Below.refl _ _) | (with_reducible assumption) | (with_reducible refine bel_set ?_ (by (try dsimp only); omega) _) | (with_reducible refine bel_alloc ?_ _) | (with_reducible refine bel_drewN ?_ _) | (with_reducible refine bel_drew ?_))) hb18
  have zz18 : w17.heap.size + 0 ≤ w18.heap.size := by have := hb18.size; (try simp only [World.size_alloc] at this); omega
  have vw_18 : Below w.heap.size w w18 := bel_trans vw_17 st18
  have vW0_18 : Below w14.heap.size w14 w18 := bel_trans vW0_17 st18
  have vM0_18 : Below w14.heap.size w14 w18 := bel_trans vM0_17 st18
  have vH0_18 : Below w16.heap.size w16 w18 := bel_trans vH0_17 st18
  have za1_18 : w.heap.size < w18.heap.size := by omega
  have ea1_0_18 : w18.cell? ⟨w.heap.size, 0, none⟩ = some (.slice A10 (List.length x1) c10) := (hb18.cell (by (try simp only [World.size_alloc]); (try dsimp only); omega)).trans ea1_0_17
  have zx1_18 : w5.heap.size < w18.heap.size := by omega
  have ex1_0_18 : w18.cell? ⟨w5.heap.size, 0, none⟩ = some (.slice A5_0 (List.length x1) c5_0) := (hb18.cell (by (try simp only [World.size_alloc]); (try dsimp only); omega)).trans ex1_0_17
  clear ea1_0_17 ex1_0_17
  go_wp2_with fail
  go_ret
  exact ⟨rfl, vw_18⟩
end Go.Proofs.Ytamodpeeocmneaa
