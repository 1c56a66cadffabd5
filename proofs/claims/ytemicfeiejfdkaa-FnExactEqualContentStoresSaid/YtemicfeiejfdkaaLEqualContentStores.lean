/- The law FnExactEqualContentStores, walked out of the contracts. Printed by a program. -/
import Derived.Test.YtemicfeiejfdkaaEqs
import Derived.Deep.RegionHeld3
namespace Go.Proofs.Ytemicfeiejfdkaa
open Go.RowKit
set_option linter.unusedVariables false
set_option linter.unusedSimpArgs false

set_option maxRecDepth 100000 in
set_option maxHeartbeats 4000000 in
theorem L_EqualContentStores (w : World) (cs0 : List Value) (x0 : Ty.D tContentStore) (h0 : Ty.rd w tContentStore cs0 x0) (cs1 : List Value) (x1 : Ty.D tContentStore) (h1 : Ty.rd w tContentStore cs1 x1) :
    Calls Try.prog 4 #[.agg cs0.toArray, .agg cs1.toArray] w (RetB w true) := by
  obtain ⟨A01, c01, rfl, _, _⟩ := rd_ContentStore h0
  obtain ⟨A11, c11, rfl, _, _⟩ := rd_ContentStore h1
  go_enter Try.func4, Try.ntmps4
  go_wp2_with fail
  refine (C_laws_szContentStore _ _ x0 1048576 (Ty.rd_below (by repeat' (first | (with_reducible exact Below.refl _ _) | (with_reducible assumption) | (with_reducible refine bel_set ?_ (by (try dsimp only); omega) _) | (with_reducible refine bel_alloc ?_ _) | (with_reducible refine bel_drewN ?_ _) | (with_reducible refine bel_drew ?_))) h0) (by omega) (by omega)).mono ?_
  rintro e w1 ⟨r1, rfl, hr1, hb1⟩
  have st1 : Below w.heap.size w w1 := bel_trans (by repeat' (first | (with_reducible exact Below.refl _ _) | (with_reducible assumption) | (with_reducible refine bel_set ?_ (by (try dsimp only); omega) _) | (with_reducible refine bel_alloc ?_ _) | (with_reducible refine bel_drewN ?_ _) | (with_reducible refine bel_drew ?_))) hb1
  have zz1 : w.heap.size + 2 ≤ w1.heap.size := by have := hb1.size; (try simp only [World.size_alloc] at this); omega
  have vw_1 : Below w.heap.size w w1 := st1
  have za0_1 : w.heap.size < w1.heap.size := by omega
  have ea0_0_1 : w1.cell? ⟨w.heap.size, 0, none⟩ = some (.int .i64 x0.1) := (hb1.cell (by (try simp only [World.size_alloc]); (try dsimp only); omega)).trans ((World.cell?_alloc_lt _ _ _ (by (try simp only [World.size_alloc]); (try dsimp only); omega)).trans ((cell_new w 31 #[.int .i64 x0.1, .slice A01 (List.length x0.2) c01] 0 (by first | rfl | (simp only [World.size_alloc]))) : _ = some (Value.int .i64 x0.1)))
  have ea0_1_1 : w1.cell? ⟨w.heap.size, 1, none⟩ = some (.slice A01 (List.length x0.2) c01) := (hb1.cell (by (try simp only [World.size_alloc]); (try dsimp only); omega)).trans ((World.cell?_alloc_lt _ _ _ (by (try simp only [World.size_alloc]); (try dsimp only); omega)).trans ((cell_new w 31 #[.int .i64 x0.1, .slice A01 (List.length x0.2) c01] 1 (by first | rfl | (simp only [World.size_alloc]))) : _ = some (Value.slice A01 (List.length x0.2) c01)))
  have za1_1 : w.heap.size + 1 < w1.heap.size := by omega
  have ea1_0_1 : w1.cell? ⟨w.heap.size + 1, 0, none⟩ = some (.int .i64 x1.1) := (hb1.cell (by (try simp only [World.size_alloc]); (try dsimp only); omega)).trans ((cell_new (w.alloc (.cells #[.int .i64 x0.1, .slice A01 (List.length x0.2) c01] 31)) 31 #[.int .i64 x1.1, .slice A11 (List.length x1.2) c11] 0 (by first | rfl | (simp only [World.size_alloc]))) : _ = some (Value.int .i64 x1.1))
  have ea1_1_1 : w1.cell? ⟨w.heap.size + 1, 1, none⟩ = some (.slice A11 (List.length x1.2) c11) := (hb1.cell (by (try simp only [World.size_alloc]); (try dsimp only); omega)).trans ((cell_new (w.alloc (.cells #[.int .i64 x0.1, .slice A01 (List.length x0.2) c01] 31)) 31 #[.int .i64 x1.1, .slice A11 (List.length x1.2) c11] 1 (by first | rfl | (simp only [World.size_alloc]))) : _ = some (Value.slice A11 (List.length x1.2) c11))
  rcases hr1 with rfl | ⟨p1, q1⟩
  · go_wp2
    go_ret
    exact ⟨rfl, vw_1⟩
  go_wp2_with fail
  refine (C_laws_szContentStore _ _ x1 r1 (Ty.rd_below (by repeat' (first | (with_reducible exact Below.refl _ _) | (with_reducible assumption) | (with_reducible refine bel_set ?_ (by (try dsimp only); omega) _) | (with_reducible refine bel_alloc ?_ _) | (with_reducible refine bel_drewN ?_ _) | (with_reducible refine bel_drew ?_))) h1) p1 (by omega)).mono ?_
  rintro e w2 ⟨r2, rfl, hr2, hb2⟩
  have st2 : Below w1.heap.size w1 w2 := bel_trans (by repeat' (first | (with_reducible exact Below.refl _ _) | (with_reducible assumption) | (with_reducible refine bel_set ?_ (by (try dsimp only); omega) _) | (with_reducible refine bel_alloc ?_ _) | (with_reducible refine bel_drewN ?_ _) | (with_reducible refine bel_drew ?_))) hb2
  have zz2 : w1.heap.size + 0 ≤ w2.heap.size := by have := hb2.size; (try simp only [World.size_alloc] at this); omega
  have vw_2 : Below w.heap.size w w2 := bel_trans vw_1 st2
  have za0_2 : w.heap.size < w2.heap.size := by omega
  have ea0_0_2 : w2.cell? ⟨w.heap.size, 0, none⟩ = some (.int .i64 x0.1) := (hb2.cell (by (try simp only [World.size_alloc]); (try dsimp only); omega)).trans ea0_0_1
  have ea0_1_2 : w2.cell? ⟨w.heap.size, 1, none⟩ = some (.slice A01 (List.length x0.2) c01) := (hb2.cell (by (try simp only [World.size_alloc]); (try dsimp only); omega)).trans ea0_1_1
  have za1_2 : w.heap.size + 1 < w2.heap.size := by omega
  have ea1_0_2 : w2.cell? ⟨w.heap.size + 1, 0, none⟩ = some (.int .i64 x1.1) := (hb2.cell (by (try simp only [World.size_alloc]); (try dsimp only); omega)).trans ea1_0_1
  have ea1_1_2 : w2.cell? ⟨w.heap.size + 1, 1, none⟩ = some (.slice A11 (List.length x1.2) c11) := (hb2.cell (by (try simp only [World.size_alloc]); (try dsimp only); omega)).trans ea1_1_1
  clear ea0_0_1 ea0_1_1 ea1_0_1 ea1_1_1
  rcases hr2 with rfl | ⟨p2, q2⟩
  · go_wp2
    go_ret
    exact ⟨rfl, vw_2⟩
  have s0 : Ty.bulk tContentStore x0 ≤ 1048576 := by omega
  have s1 : Ty.bulk tContentStore x1 ≤ 1048576 := by omega
  have HSp : Hid (∀ W, Below w2.heap.size w2 W → Below w2.heap.size w2 W ∧ W.cell? ⟨w.heap.size, 0, none⟩ = some (.int .i64 x0.1) ∧ W.cell? ⟨w.heap.size, 1, none⟩ = some (.slice A01 (List.length x0.2) c01) ∧ W.cell? ⟨w.heap.size + 1, 0, none⟩ = some (.int .i64 x1.1) ∧ W.cell? ⟨w.heap.size + 1, 1, none⟩ = some (.slice A11 (List.length x1.2) c11)) := fun W hW => ⟨hW, (hW.cell za0_2).trans ea0_0_2, (hW.cell za0_2).trans ea0_1_2, (hW.cell za1_2).trans ea1_0_2, (hW.cell za1_2).trans ea1_1_2⟩
  have hvp : Below w2.heap.size w2 w2 := Below.refl _ _
  go_wp2_with fail
  go_region_held3 (fun W => Below w2.heap.size w2 W ∧ W.cell? ⟨w.heap.size, 0, none⟩ = some (.int .i64 x0.1) ∧ W.cell? ⟨w.heap.size, 1, none⟩ = some (.slice A01 (List.length x0.2) c01) ∧ W.cell? ⟨w.heap.size + 1, 0, none⟩ = some (.int .i64 x1.1) ∧ W.cell? ⟨w.heap.size + 1, 1, none⟩ = some (.slice A11 (List.length x1.2) c11)) (exact HSp.out _ (by repeat' (first | (with_reducible exact Below.refl _ _) | (with_reducible assumption) | (with_reducible refine bel_set ?_ (by (try dsimp only); omega) _) | (with_reducible refine bel_alloc ?_ _) | (with_reducible refine bel_drewN ?_ _) | (with_reducible refine bel_drew ?_))))
    (first
      | (go_at_call 21; (with_reducible refine (C_laws_toContentStore _ _ x0 (Ty.rd_below (by repeat' (first | (with_reducible exact Below.refl _ _) | (with_reducible assumption) | (with_reducible refine bel_set ?_ (by (try dsimp only); omega) _) | (with_reducible refine bel_alloc ?_ _) | (with_reducible refine bel_drewN ?_ _) | (with_reducible refine bel_drew ?_))) h0) s0).mono ?_); rintro e wp0 ⟨csp0, fpp0, rfl, howp0, hfrp0, hbp0⟩; have hvp0 : Below w2.heap.size w2 wp0 := bel_trans (by repeat' (first | (with_reducible exact Below.refl _ _) | (with_reducible assumption) | (with_reducible refine bel_set ?_ (by (try dsimp only); omega) _) | (with_reducible refine bel_alloc ?_ _) | (with_reducible refine bel_drewN ?_ _) | (with_reducible refine bel_drew ?_))) hbp0; have vwp0 : Below w.heap.size w wp0 := bel_trans (by repeat' (first | (with_reducible exact Below.refl _ _) | (with_reducible assumption) | (with_reducible refine bel_set ?_ (by (try dsimp only); omega) _) | (with_reducible refine bel_alloc ?_ _) | (with_reducible refine bel_drewN ?_ _) | (with_reducible refine bel_drew ?_))) hbp0)
      | (go_at_call 21; (with_reducible refine (C_laws_toContentStore _ _ x1 (Ty.rd_below (by repeat' (first | (with_reducible exact Below.refl _ _) | (with_reducible assumption) | (with_reducible refine bel_set ?_ (by (try dsimp only); omega) _) | (with_reducible refine bel_alloc ?_ _) | (with_reducible refine bel_drewN ?_ _) | (with_reducible refine bel_drew ?_))) h1) s1).mono ?_); rintro e wp1 ⟨csp1, fpp1, rfl, howp1, hfrp1, hbp1⟩; have hvp1 : Below w2.heap.size w2 wp1 := bel_trans (by repeat' (first | (with_reducible exact Below.refl _ _) | (with_reducible assumption) | (with_reducible refine bel_set ?_ (by (try dsimp only); omega) _) | (with_reducible refine bel_alloc ?_ _) | (with_reducible refine bel_drewN ?_ _) | (with_reducible refine bel_drew ?_))) hbp1; have vwp1 : Below w.heap.size w wp1 := bel_trans (by repeat' (first | (with_reducible exact Below.refl _ _) | (with_reducible assumption) | (with_reducible refine bel_set ?_ (by (try dsimp only); omega) _) | (with_reducible refine bel_alloc ?_ _) | (with_reducible refine bel_drewN ?_ _) | (with_reducible refine bel_drew ?_))) hbp1; have yp0_p1 : Below wp0.heap.size wp0 wp1 := bel_trans (by repeat' (first | (with_reducible exact Below.refl _ _) | (with_reducible assumption) | (with_reducible refine bel_set ?_ (by (try dsimp only); omega) _) | (with_reducible refine bel_alloc ?_ _) | (with_reducible refine bel_drewN ?_ _) | (with_reducible refine bel_drew ?_))) hbp1)
      | (go_at_call 20; (with_reducible refine (C_spec_EqualContentStores _ _ x0 _ x1 (Ty.rd_below (by repeat' (first | (with_reducible exact Below.refl _ _) | (with_reducible assumption) | (with_reducible refine bel_set ?_ (by (try dsimp only); omega) _) | (with_reducible refine bel_alloc ?_ _) | (with_reducible refine bel_drewN ?_ _) | (with_reducible refine bel_drew ?_))) (Ty.ow_rd howp0)) (Ty.rd_below (by repeat' (first | (with_reducible exact Below.refl _ _) | (with_reducible assumption) | (with_reducible refine bel_set ?_ (by (try dsimp only); omega) _) | (with_reducible refine bel_alloc ?_ _) | (with_reducible refine bel_drewN ?_ _) | (with_reducible refine bel_drew ?_))) (Ty.ow_rd howp1)) s0 s1).mono ?_); rintro e w3 ⟨rfl, hb3⟩; have hvpz : Below w2.heap.size w2 w3 := bel_trans (by repeat' (first | (with_reducible exact Below.refl _ _) | (with_reducible assumption) | (with_reducible refine bel_set ?_ (by (try dsimp only); omega) _) | (with_reducible refine bel_alloc ?_ _) | (with_reducible refine bel_drewN ?_ _) | (with_reducible refine bel_drew ?_))) hb3))
  have st3 : Below w2.heap.size w2 w3 := hvpz
  have zz3 : w2.heap.size ≤ w3.heap.size := st3.size
  have vw_3 : Below w.heap.size w w3 := bel_trans vw_2 st3
  have za0_3 : w.heap.size < w3.heap.size := by omega
  have ea0_0_3 : w3.cell? ⟨w.heap.size, 0, none⟩ = some (.int .i64 x0.1) := (st3.cell za0_2).trans ea0_0_2
  have ea0_1_3 : w3.cell? ⟨w.heap.size, 1, none⟩ = some (.slice A01 (List.length x0.2) c01) := (st3.cell za0_2).trans ea0_1_2
  have za1_3 : w.heap.size + 1 < w3.heap.size := by omega
  have ea1_0_3 : w3.cell? ⟨w.heap.size + 1, 0, none⟩ = some (.int .i64 x1.1) := (st3.cell za1_2).trans ea1_0_2
  have ea1_1_3 : w3.cell? ⟨w.heap.size + 1, 1, none⟩ = some (.slice A11 (List.length x1.2) c11) := (st3.cell za1_2).trans ea1_1_2
  clear ea0_0_2 ea0_1_2 ea1_0_2 ea1_1_2
  go_wp2_with fail
  refine (C_laws_toContentStore _ _ x0 (Ty.rd_below (by repeat' (first | (with_reducible exact Below.refl _ _) | (with_reducible assumption) | (with_reducible refine bel_set ?_ (by (try dsimp only); omega) _) | (with_reducible refine bel_alloc ?_ _) | (with_reducible refine bel_drewN ?_ _) | (with_reducible refine bel_drew ?_))) h0) s0).mono ?_
  rintro e w4 ⟨cs4_, fp4, rfl, how4, hfr4, hb4⟩
  obtain ⟨A4_1, c4_1, rfl⟩ := ow_ContentStore how4
  have st4 : Below w3.heap.size w3 w4 := bel_trans (by repeat' (first | (with_reducible exact Below.refl _ _) | (with_reducible assumption) | (with_reducible refine bel_set ?_ (by (try dsimp only); omega) _) | (with_reducible refine bel_alloc ?_ _) | (with_reducible refine bel_drewN ?_ _) | (with_reducible refine bel_drew ?_))) hb4
  have zz4 : w3.heap.size + 0 ≤ w4.heap.size := by have := hb4.size; (try simp only [World.size_alloc] at this); omega
  have vw_4 : Below w.heap.size w w4 := bel_trans vw_3 st4
  have za0_4 : w.heap.size < w4.heap.size := by omega
  have ea0_0_4 : w4.cell? ⟨w.heap.size, 0, none⟩ = some (.int .i64 x0.1) := (hb4.cell (by (try simp only [World.size_alloc]); (try dsimp only); omega)).trans ea0_0_3
  have ea0_1_4 : w4.cell? ⟨w.heap.size, 1, none⟩ = some (.slice A01 (List.length x0.2) c01) := (hb4.cell (by (try simp only [World.size_alloc]); (try dsimp only); omega)).trans ea0_1_3
  have za1_4 : w.heap.size + 1 < w4.heap.size := by omega
  have ea1_0_4 : w4.cell? ⟨w.heap.size + 1, 0, none⟩ = some (.int .i64 x1.1) := (hb4.cell (by (try simp only [World.size_alloc]); (try dsimp only); omega)).trans ea1_0_3
  have ea1_1_4 : w4.cell? ⟨w.heap.size + 1, 1, none⟩ = some (.slice A11 (List.length x1.2) c11) := (hb4.cell (by (try simp only [World.size_alloc]); (try dsimp only); omega)).trans ea1_1_3
  clear ea0_0_3 ea0_1_3 ea1_0_3 ea1_1_3
  have frX0 : FrI (w3.heap.size + 0) w4.heap.size fp4 := hfr4.mono (by (try simp only [World.size_alloc]); omega) (Nat.le_refl _)
  have vX0_4 : Below w4.heap.size w4 w4 := Below.refl _ _
  go_wp2_with fail
  refine (C_laws_toContentStore _ _ x1 (Ty.rd_below (by repeat' (first | (with_reducible exact Below.refl _ _) | (with_reducible assumption) | (with_reducible refine bel_set ?_ (by (try dsimp only); omega) _) | (with_reducible refine bel_alloc ?_ _) | (with_reducible refine bel_drewN ?_ _) | (with_reducible refine bel_drew ?_))) h1) s1).mono ?_
  rintro e w5 ⟨cs5_, fp5, rfl, how5, hfr5, hb5⟩
  obtain ⟨A5_1, c5_1, rfl⟩ := ow_ContentStore how5
  have st5 : Below w4.heap.size w4 w5 := bel_trans (by repeat' (first | (with_reducible exact Below.refl _ _) | (with_reducible assumption) | (with_reducible refine bel_set ?_ (by (try dsimp only); omega) _) | (with_reducible refine bel_alloc ?_ _) | (with_reducible refine bel_drewN ?_ _) | (with_reducible refine bel_drew ?_))) hb5
  have zz5 : w4.heap.size + 1 ≤ w5.heap.size := by have := hb5.size; (try simp only [World.size_alloc] at this); omega
  have vw_5 : Below w.heap.size w w5 := bel_trans vw_4 st5
  have vX0_5 : Below w4.heap.size w4 w5 := st5
  have za0_5 : w.heap.size < w5.heap.size := by omega
  have ea0_0_5 : w5.cell? ⟨w.heap.size, 0, none⟩ = some (.int .i64 x0.1) := (hb5.cell (by (try simp only [World.size_alloc]); (try dsimp only); omega)).trans ((World.cell?_alloc_lt _ _ _ (by (try simp only [World.size_alloc]); (try dsimp only); omega)).trans ea0_0_4)
  have ea0_1_5 : w5.cell? ⟨w.heap.size, 1, none⟩ = some (.slice A01 (List.length x0.2) c01) := (hb5.cell (by (try simp only [World.size_alloc]); (try dsimp only); omega)).trans ((World.cell?_alloc_lt _ _ _ (by (try simp only [World.size_alloc]); (try dsimp only); omega)).trans ea0_1_4)
  have za1_5 : w.heap.size + 1 < w5.heap.size := by omega
  have ea1_0_5 : w5.cell? ⟨w.heap.size + 1, 0, none⟩ = some (.int .i64 x1.1) := (hb5.cell (by (try simp only [World.size_alloc]); (try dsimp only); omega)).trans ((World.cell?_alloc_lt _ _ _ (by (try simp only [World.size_alloc]); (try dsimp only); omega)).trans ea1_0_4)
  have ea1_1_5 : w5.cell? ⟨w.heap.size + 1, 1, none⟩ = some (.slice A11 (List.length x1.2) c11) := (hb5.cell (by (try simp only [World.size_alloc]); (try dsimp only); omega)).trans ((World.cell?_alloc_lt _ _ _ (by (try simp only [World.size_alloc]); (try dsimp only); omega)).trans ea1_1_4)
  have zx0_5 : w4.heap.size < w5.heap.size := by omega
  have ex0_0_5 : w5.cell? ⟨w4.heap.size, 0, none⟩ = some (.int .i64 x0.1) := (hb5.cell (by (try simp only [World.size_alloc]); (try dsimp only); omega)).trans ((cell_new w4 24 #[.int .i64 x0.1, .slice A4_1 (List.length x0.2) c4_1] 0 (by first | rfl | (simp only [World.size_alloc]))) : _ = some (Value.int .i64 x0.1))
  have ex0_1_5 : w5.cell? ⟨w4.heap.size, 1, none⟩ = some (.slice A4_1 (List.length x0.2) c4_1) := (hb5.cell (by (try simp only [World.size_alloc]); (try dsimp only); omega)).trans ((cell_new w4 24 #[.int .i64 x0.1, .slice A4_1 (List.length x0.2) c4_1] 1 (by first | rfl | (simp only [World.size_alloc]))) : _ = some (Value.slice A4_1 (List.length x0.2) c4_1))
  clear ea0_0_4 ea0_1_4 ea1_0_4 ea1_1_4
  have frX1 : FrI (w4.heap.size + 1) w5.heap.size fp5 := hfr5.mono (by (try simp only [World.size_alloc]); omega) (Nat.le_refl _)
  have vX1_5 : Below w5.heap.size w5 w5 := Below.refl _ _
  go_wp2_with fail
  refine (C_impl_EqualContentStores _ _ x0 _ x1 (Ty.ow_rd (Ty.ow_bel (by repeat' (first | (with_reducible exact Below.refl _ _) | (with_reducible assumption) | (with_reducible refine bel_set ?_ (by (try dsimp only); omega) _) | (with_reducible refine bel_alloc ?_ _) | (with_reducible refine bel_drewN ?_ _) | (with_reducible refine bel_drew ?_))) how4)) (Ty.ow_rd (Ty.ow_bel (by repeat' (first | (with_reducible exact Below.refl _ _) | (with_reducible assumption) | (with_reducible refine bel_set ?_ (by (try dsimp only); omega) _) | (with_reducible refine bel_alloc ?_ _) | (with_reducible refine bel_drewN ?_ _) | (with_reducible refine bel_drew ?_))) how5)) s0 s1).mono ?_
  rintro e w6 ⟨rfl, hb6⟩
  have st6 : Below w5.heap.size w5 w6 := bel_trans (by repeat' (first | (with_reducible exact Below.refl _ _) | (with_reducible assumption) | (with_reducible refine bel_set ?_ (by (try dsimp only); omega) _) | (with_reducible refine bel_alloc ?_ _) | (with_reducible refine bel_drewN ?_ _) | (with_reducible refine bel_drew ?_))) hb6
  have zz6 : w5.heap.size + 1 ≤ w6.heap.size := by have := hb6.size; (try simp only [World.size_alloc] at this); omega
  have vw_6 : Below w.heap.size w w6 := bel_trans vw_5 st6
  have vX0_6 : Below w4.heap.size w4 w6 := bel_trans vX0_5 st6
  have vX1_6 : Below w5.heap.size w5 w6 := st6
  have za0_6 : w.heap.size < w6.heap.size := by omega
  have ea0_0_6 : w6.cell? ⟨w.heap.size, 0, none⟩ = some (.int .i64 x0.1) := (hb6.cell (by (try simp only [World.size_alloc]); (try dsimp only); omega)).trans ((World.cell?_alloc_lt _ _ _ (by (try simp only [World.size_alloc]); (try dsimp only); omega)).trans ea0_0_5)
  have ea0_1_6 : w6.cell? ⟨w.heap.size, 1, none⟩ = some (.slice A01 (List.length x0.2) c01) := (hb6.cell (by (try simp only [World.size_alloc]); (try dsimp only); omega)).trans ((World.cell?_alloc_lt _ _ _ (by (try simp only [World.size_alloc]); (try dsimp only); omega)).trans ea0_1_5)
  have za1_6 : w.heap.size + 1 < w6.heap.size := by omega
  have ea1_0_6 : w6.cell? ⟨w.heap.size + 1, 0, none⟩ = some (.int .i64 x1.1) := (hb6.cell (by (try simp only [World.size_alloc]); (try dsimp only); omega)).trans ((World.cell?_alloc_lt _ _ _ (by (try simp only [World.size_alloc]); (try dsimp only); omega)).trans ea1_0_5)
  have ea1_1_6 : w6.cell? ⟨w.heap.size + 1, 1, none⟩ = some (.slice A11 (List.length x1.2) c11) := (hb6.cell (by (try simp only [World.size_alloc]); (try dsimp only); omega)).trans ((World.cell?_alloc_lt _ _ _ (by (try simp only [World.size_alloc]); (try dsimp only); omega)).trans ea1_1_5)
  have zx0_6 : w4.heap.size < w6.heap.size := by omega
  have ex0_0_6 : w6.cell? ⟨w4.heap.size, 0, none⟩ = some (.int .i64 x0.1) := (hb6.cell (by (try simp only [World.size_alloc]); (try dsimp only); omega)).trans ((World.cell?_alloc_lt _ _ _ (by (try simp only [World.size_alloc]); (try dsimp only); omega)).trans ex0_0_5)
  have ex0_1_6 : w6.cell? ⟨w4.heap.size, 1, none⟩ = some (.slice A4_1 (List.length x0.2) c4_1) := (hb6.cell (by (try simp only [World.size_alloc]); (try dsimp only); omega)).trans ((World.cell?_alloc_lt _ _ _ (by (try simp only [World.size_alloc]); (try dsimp only); omega)).trans ex0_1_5)
  have zx1_6 : w5.heap.size < w6.heap.size := by omega
  have ex1_0_6 : w6.cell? ⟨w5.heap.size, 0, none⟩ = some (.int .i64 x1.1) := (hb6.cell (by (try simp only [World.size_alloc]); (try dsimp only); omega)).trans ((cell_new w5 24 #[.int .i64 x1.1, .slice A5_1 (List.length x1.2) c5_1] 0 (by first | rfl | (simp only [World.size_alloc]))) : _ = some (Value.int .i64 x1.1))
  have ex1_1_6 : w6.cell? ⟨w5.heap.size, 1, none⟩ = some (.slice A5_1 (List.length x1.2) c5_1) := (hb6.cell (by (try simp only [World.size_alloc]); (try dsimp only); omega)).trans ((cell_new w5 24 #[.int .i64 x1.1, .slice A5_1 (List.length x1.2) c5_1] 1 (by first | rfl | (simp only [World.size_alloc]))) : _ = some (Value.slice A5_1 (List.length x1.2) c5_1))
  clear ea0_0_5 ea0_1_5 ea1_0_5 ea1_1_5 ex0_0_5 ex0_1_5
  have hq0 : ((f_EqualContentStores x0 x1) != (f_EqualContentStores x0 x1)) = false := by simp
  have HSq0 : Hid (∀ W, Below w6.heap.size w6 W → Below w6.heap.size w6 W ∧ W.cell? ⟨w.heap.size, 0, none⟩ = some (.int .i64 x0.1) ∧ W.cell? ⟨w.heap.size, 1, none⟩ = some (.slice A01 (List.length x0.2) c01) ∧ W.cell? ⟨w.heap.size + 1, 0, none⟩ = some (.int .i64 x1.1) ∧ W.cell? ⟨w.heap.size + 1, 1, none⟩ = some (.slice A11 (List.length x1.2) c11) ∧ W.cell? ⟨w4.heap.size, 0, none⟩ = some (.int .i64 x0.1) ∧ W.cell? ⟨w4.heap.size, 1, none⟩ = some (.slice A4_1 (List.length x0.2) c4_1) ∧ W.cell? ⟨w5.heap.size, 0, none⟩ = some (.int .i64 x1.1) ∧ W.cell? ⟨w5.heap.size, 1, none⟩ = some (.slice A5_1 (List.length x1.2) c5_1)) := fun W hW => ⟨hW, (hW.cell za0_6).trans ea0_0_6, (hW.cell za0_6).trans ea0_1_6, (hW.cell za1_6).trans ea1_0_6, (hW.cell za1_6).trans ea1_1_6, (hW.cell zx0_6).trans ex0_0_6, (hW.cell zx0_6).trans ex0_1_6, (hW.cell zx1_6).trans ex1_0_6, (hW.cell zx1_6).trans ex1_1_6⟩
  go_wp2_with fail
  go_region_held3 (fun W => Below w6.heap.size w6 W ∧ W.cell? ⟨w.heap.size, 0, none⟩ = some (.int .i64 x0.1) ∧ W.cell? ⟨w.heap.size, 1, none⟩ = some (.slice A01 (List.length x0.2) c01) ∧ W.cell? ⟨w.heap.size + 1, 0, none⟩ = some (.int .i64 x1.1) ∧ W.cell? ⟨w.heap.size + 1, 1, none⟩ = some (.slice A11 (List.length x1.2) c11) ∧ W.cell? ⟨w4.heap.size, 0, none⟩ = some (.int .i64 x0.1) ∧ W.cell? ⟨w4.heap.size, 1, none⟩ = some (.slice A4_1 (List.length x0.2) c4_1) ∧ W.cell? ⟨w5.heap.size, 0, none⟩ = some (.int .i64 x1.1) ∧ W.cell? ⟨w5.heap.size, 1, none⟩ = some (.slice A5_1 (List.length x1.2) c5_1)) (exact HSq0.out _ (by repeat' (first | (with_reducible exact Below.refl _ _) | (with_reducible assumption) | (with_reducible refine bel_set ?_ (by (try dsimp only); omega) _) | (with_reducible refine bel_alloc ?_ _) | (with_reducible refine bel_drewN ?_ _) | (with_reducible refine bel_drew ?_))))
    (first
      | (go_at_call 21; (with_reducible refine (C_laws_toContentStore _ _ x0 (Ty.rd_below (by repeat' (first | (with_reducible exact Below.refl _ _) | (with_reducible assumption) | (with_reducible refine bel_set ?_ (by (try dsimp only); omega) _) | (with_reducible refine bel_alloc ?_ _) | (with_reducible refine bel_drewN ?_ _) | (with_reducible refine bel_drew ?_))) h0) s0).mono ?_); rintro e wq ⟨csq, fpq, rfl, howq, hfrq, hbq⟩; have hvq : Below w6.heap.size w6 wq := bel_trans (by repeat' (first | (with_reducible exact Below.refl _ _) | (with_reducible assumption) | (with_reducible refine bel_set ?_ (by (try dsimp only); omega) _) | (with_reducible refine bel_alloc ?_ _) | (with_reducible refine bel_drewN ?_ _) | (with_reducible refine bel_drew ?_))) hbq; have hxq : Below w4.heap.size w4 wq := bel_trans vX0_6 hvq)
      | (go_at_call 16; (with_reducible refine (C_laws_eqContentStore _ _ _ x0 (Ty.rd_below hxq (Ty.ow_rd how4)) (Ty.ow_rd howq)).mono ?_); rintro e w7 ⟨rfl, hb7⟩; have hvz : Below w6.heap.size w6 w7 := bel_trans hvq hb7))
  have st7 : Below w6.heap.size w6 w7 := hvz
  clear hvz
  have zz7 : w6.heap.size ≤ w7.heap.size := st7.size
  have vw_7 : Below w.heap.size w w7 := bel_trans vw_6 st7
  have vX0_7 : Below w4.heap.size w4 w7 := bel_trans vX0_6 st7
  have vX1_7 : Below w5.heap.size w5 w7 := bel_trans vX1_6 st7
  have za0_7 : w.heap.size < w7.heap.size := by omega
  have ea0_0_7 : w7.cell? ⟨w.heap.size, 0, none⟩ = some (.int .i64 x0.1) := (st7.cell za0_6).trans ea0_0_6
  have ea0_1_7 : w7.cell? ⟨w.heap.size, 1, none⟩ = some (.slice A01 (List.length x0.2) c01) := (st7.cell za0_6).trans ea0_1_6
  have za1_7 : w.heap.size + 1 < w7.heap.size := by omega
  have ea1_0_7 : w7.cell? ⟨w.heap.size + 1, 0, none⟩ = some (.int .i64 x1.1) := (st7.cell za1_6).trans ea1_0_6
  have ea1_1_7 : w7.cell? ⟨w.heap.size + 1, 1, none⟩ = some (.slice A11 (List.length x1.2) c11) := (st7.cell za1_6).trans ea1_1_6
  have zx0_7 : w4.heap.size < w7.heap.size := by omega
  have ex0_0_7 : w7.cell? ⟨w4.heap.size, 0, none⟩ = some (.int .i64 x0.1) := (st7.cell zx0_6).trans ex0_0_6
  have ex0_1_7 : w7.cell? ⟨w4.heap.size, 1, none⟩ = some (.slice A4_1 (List.length x0.2) c4_1) := (st7.cell zx0_6).trans ex0_1_6
  have zx1_7 : w5.heap.size < w7.heap.size := by omega
  have ex1_0_7 : w7.cell? ⟨w5.heap.size, 0, none⟩ = some (.int .i64 x1.1) := (st7.cell zx1_6).trans ex1_0_6
  have ex1_1_7 : w7.cell? ⟨w5.heap.size, 1, none⟩ = some (.slice A5_1 (List.length x1.2) c5_1) := (st7.cell zx1_6).trans ex1_1_6
  clear ea0_0_6 ea0_1_6 ea1_0_6 ea1_1_6 ex0_0_6 ex0_1_6 ex1_0_6 ex1_1_6
  have HSq1 : Hid (∀ W, Below w7.heap.size w7 W → Below w7.heap.size w7 W ∧ W.cell? ⟨w.heap.size, 0, none⟩ = some (.int .i64 x0.1) ∧ W.cell? ⟨w.heap.size, 1, none⟩ = some (.slice A01 (List.length x0.2) c01) ∧ W.cell? ⟨w.heap.size + 1, 0, none⟩ = some (.int .i64 x1.1) ∧ W.cell? ⟨w.heap.size + 1, 1, none⟩ = some (.slice A11 (List.length x1.2) c11) ∧ W.cell? ⟨w4.heap.size, 0, none⟩ = some (.int .i64 x0.1) ∧ W.cell? ⟨w4.heap.size, 1, none⟩ = some (.slice A4_1 (List.length x0.2) c4_1) ∧ W.cell? ⟨w5.heap.size, 0, none⟩ = some (.int .i64 x1.1) ∧ W.cell? ⟨w5.heap.size, 1, none⟩ = some (.slice A5_1 (List.length x1.2) c5_1)) := fun W hW => ⟨hW, (hW.cell za0_7).trans ea0_0_7, (hW.cell za0_7).trans ea0_1_7, (hW.cell za1_7).trans ea1_0_7, (hW.cell za1_7).trans ea1_1_7, (hW.cell zx0_7).trans ex0_0_7, (hW.cell zx0_7).trans ex0_1_7, (hW.cell zx1_7).trans ex1_0_7, (hW.cell zx1_7).trans ex1_1_7⟩
  go_wp2_with fail
  go_region_held3 (fun W => Below w7.heap.size w7 W ∧ W.cell? ⟨w.heap.size, 0, none⟩ = some (.int .i64 x0.1) ∧ W.cell? ⟨w.heap.size, 1, none⟩ = some (.slice A01 (List.length x0.2) c01) ∧ W.cell? ⟨w.heap.size + 1, 0, none⟩ = some (.int .i64 x1.1) ∧ W.cell? ⟨w.heap.size + 1, 1, none⟩ = some (.slice A11 (List.length x1.2) c11) ∧ W.cell? ⟨w4.heap.size, 0, none⟩ = some (.int .i64 x0.1) ∧ W.cell? ⟨w4.heap.size, 1, none⟩ = some (.slice A4_1 (List.length x0.2) c4_1) ∧ W.cell? ⟨w5.heap.size, 0, none⟩ = some (.int .i64 x1.1) ∧ W.cell? ⟨w5.heap.size, 1, none⟩ = some (.slice A5_1 (List.length x1.2) c5_1)) (exact HSq1.out _ (by repeat' (first | (with_reducible exact Below.refl _ _) | (with_reducible assumption) | (with_reducible refine bel_set ?_ (by (try dsimp only); omega) _) | (with_reducible refine bel_alloc ?_ _) | (with_reducible refine bel_drewN ?_ _) | (with_reducible refine bel_drew ?_))))
    (first
      | (go_at_call 21; (with_reducible refine (C_laws_toContentStore _ _ x1 (Ty.rd_below (by repeat' (first | (with_reducible exact Below.refl _ _) | (with_reducible assumption) | (with_reducible refine bel_set ?_ (by (try dsimp only); omega) _) | (with_reducible refine bel_alloc ?_ _) | (with_reducible refine bel_drewN ?_ _) | (with_reducible refine bel_drew ?_))) h1) s1).mono ?_); rintro e wq ⟨csq, fpq, rfl, howq, hfrq, hbq⟩; have hvq : Below w7.heap.size w7 wq := bel_trans (by repeat' (first | (with_reducible exact Below.refl _ _) | (with_reducible assumption) | (with_reducible refine bel_set ?_ (by (try dsimp only); omega) _) | (with_reducible refine bel_alloc ?_ _) | (with_reducible refine bel_drewN ?_ _) | (with_reducible refine bel_drew ?_))) hbq; have hxq : Below w5.heap.size w5 wq := bel_trans vX1_7 hvq)
      | (go_at_call 16; (with_reducible refine (C_laws_eqContentStore _ _ _ x1 (Ty.rd_below hxq (Ty.ow_rd how5)) (Ty.ow_rd howq)).mono ?_); rintro e w8 ⟨rfl, hb8⟩; have hvz : Below w7.heap.size w7 w8 := bel_trans hvq hb8))
  have st8 : Below w7.heap.size w7 w8 := hvz
  clear hvz
  have zz8 : w7.heap.size ≤ w8.heap.size := st8.size
  have vw_8 : Below w.heap.size w w8 := bel_trans vw_7 st8
  have vX0_8 : Below w4.heap.size w4 w8 := bel_trans vX0_7 st8
  have vX1_8 : Below w5.heap.size w5 w8 := bel_trans vX1_7 st8
  have za0_8 : w.heap.size < w8.heap.size := by omega
  have ea0_0_8 : w8.cell? ⟨w.heap.size, 0, none⟩ = some (.int .i64 x0.1) := (st8.cell za0_7).trans ea0_0_7
  have ea0_1_8 : w8.cell? ⟨w.heap.size, 1, none⟩ = some (.slice A01 (List.length x0.2) c01) := (st8.cell za0_7).trans ea0_1_7
  have za1_8 : w.heap.size + 1 < w8.heap.size := by omega
  have ea1_0_8 : w8.cell? ⟨w.heap.size + 1, 0, none⟩ = some (.int .i64 x1.1) := (st8.cell za1_7).trans ea1_0_7
  have ea1_1_8 : w8.cell? ⟨w.heap.size + 1, 1, none⟩ = some (.slice A11 (List.length x1.2) c11) := (st8.cell za1_7).trans ea1_1_7
  have zx0_8 : w4.heap.size < w8.heap.size := by omega
  have ex0_0_8 : w8.cell? ⟨w4.heap.size, 0, none⟩ = some (.int .i64 x0.1) := (st8.cell zx0_7).trans ex0_0_7
  have ex0_1_8 : w8.cell? ⟨w4.heap.size, 1, none⟩ = some (.slice A4_1 (List.length x0.2) c4_1) := (st8.cell zx0_7).trans ex0_1_7
  have zx1_8 : w5.heap.size < w8.heap.size := by omega
  have ex1_0_8 : w8.cell? ⟨w5.heap.size, 0, none⟩ = some (.int .i64 x1.1) := (st8.cell zx1_7).trans ex1_0_7
  have ex1_1_8 : w8.cell? ⟨w5.heap.size, 1, none⟩ = some (.slice A5_1 (List.length x1.2) c5_1) := (st8.cell zx1_7).trans ex1_1_7
  clear ea0_0_7 ea0_1_7 ea1_0_7 ea1_1_7 ex0_0_7 ex0_1_7 ex1_0_7 ex1_1_7
  go_wp2_with fail
  go_ret
  exact ⟨rfl, vw_8⟩
end Go.Proofs.Ytemicfeiejfdkaa
