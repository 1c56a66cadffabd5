/- The law FnExactEvictStale, walked out of the contracts. Printed by a program. -/
import Derived.Test.YtemicfeiejfdkaaKst
import Derived.Deep.RegionHeld3
namespace Go.Proofs.Ytemicfeiejfdkaa
open Go.RowKit
set_option linter.unusedVariables false
set_option linter.unusedSimpArgs false

set_option maxRecDepth 100000 in
set_option maxHeartbeats 4000000 in
theorem L_EvictStale (w : World) (cs0 : List Value) (x0 : Ty.D tContentStore) (h0 : Ty.rd w tContentStore cs0 x0) (a1 : Int) (i1 : -9223372036854775808 ≤ a1 ∧ a1 ≤ 9223372036854775807) :
    Calls Try.prog 7 #[.agg cs0.toArray, .int .i64 a1] w (RetB w true) := by
  obtain ⟨A01, c01, rfl, _, _⟩ := rd_ContentStore h0
  go_enter Try.func7, Try.ntmps7
  go_wp2_with fail
  refine (C_laws_szContentStore _ _ x0 1048576 (Ty.rd_below (by repeat' (first | (with_reducible exact Below.refl _ _) | (with_reducible assumption) | (with_reducible refine bel_set ?_ (by (try dsimp only); omega) _) | (with_reducible refine bel_alloc ?_ _) | (with_reducible refine bel_drewN ?_ _) | (with_reducible refine bel_drew ?_))) h0) (by omega) (by omega)).mono ?_
  rintro e w1 ⟨r1, rfl, hr1, hb1⟩
  have st1 : Below w.heap.size w w1 := bel_trans (by repeat' (first | (with_reducible exact Below.refl _ _) | (with_reducible assumption) | (with_reducible refine bel_set ?_ (by (try dsimp only); omega) _) | (with_reducible refine bel_alloc ?_ _) | (with_reducible refine bel_drewN ?_ _) | (with_reducible refine bel_drew ?_))) hb1
  have zz1 : w.heap.size + 1 ≤ w1.heap.size := by have := hb1.size; (try simp only [World.size_alloc] at this); omega
  have vw_1 : Below w.heap.size w w1 := st1
  have za0_1 : w.heap.size < w1.heap.size := by omega
  have ea0_0_1 : w1.cell? ⟨w.heap.size, 0, none⟩ = some (.int .i64 x0.1) := (hb1.cell (by (try simp only [World.size_alloc]); (try dsimp only); omega)).trans ((cell_new w 31 #[.int .i64 x0.1, .slice A01 (List.length x0.2) c01] 0 (by first | rfl | (simp only [World.size_alloc]))) : _ = some (Value.int .i64 x0.1))
  have ea0_1_1 : w1.cell? ⟨w.heap.size, 1, none⟩ = some (.slice A01 (List.length x0.2) c01) := (hb1.cell (by (try simp only [World.size_alloc]); (try dsimp only); omega)).trans ((cell_new w 31 #[.int .i64 x0.1, .slice A01 (List.length x0.2) c01] 1 (by first | rfl | (simp only [World.size_alloc]))) : _ = some (Value.slice A01 (List.length x0.2) c01))
  rcases hr1 with rfl | ⟨p1, q1⟩
  · go_wp2
    go_ret
    exact ⟨rfl, vw_1⟩
  have s0 : Ty.bulk tContentStore x0 ≤ 1048576 := by omega
  go_wp2_with fail
  refine (C_laws_toContentStore _ _ x0 (Ty.rd_below (by repeat' (first | (with_reducible exact Below.refl _ _) | (with_reducible assumption) | (with_reducible refine bel_set ?_ (by (try dsimp only); omega) _) | (with_reducible refine bel_alloc ?_ _) | (with_reducible refine bel_drewN ?_ _) | (with_reducible refine bel_drew ?_))) h0) s0).mono ?_
  rintro e w2 ⟨cs2_, fp2, rfl, how2, hfr2, hb2⟩
  obtain ⟨A2_1, c2_1, rfl⟩ := ow_ContentStore how2
  have st2 : Below w1.heap.size w1 w2 := bel_trans (by repeat' (first | (with_reducible exact Below.refl _ _) | (with_reducible assumption) | (with_reducible refine bel_set ?_ (by (try dsimp only); omega) _) | (with_reducible refine bel_alloc ?_ _) | (with_reducible refine bel_drewN ?_ _) | (with_reducible refine bel_drew ?_))) hb2
  have zz2 : w1.heap.size + 0 ≤ w2.heap.size := by have := hb2.size; (try simp only [World.size_alloc] at this); omega
  have vw_2 : Below w.heap.size w w2 := bel_trans vw_1 st2
  have za0_2 : w.heap.size < w2.heap.size := by omega
  have ea0_0_2 : w2.cell? ⟨w.heap.size, 0, none⟩ = some (.int .i64 x0.1) := (hb2.cell (by (try simp only [World.size_alloc]); (try dsimp only); omega)).trans ea0_0_1
  have ea0_1_2 : w2.cell? ⟨w.heap.size, 1, none⟩ = some (.slice A01 (List.length x0.2) c01) := (hb2.cell (by (try simp only [World.size_alloc]); (try dsimp only); omega)).trans ea0_1_1
  clear ea0_0_1 ea0_1_1
  have vtp0_2 : Below w2.heap.size w2 w2 := Below.refl _ _
  go_wp2_with fail
  refine (C_spec_EvictStale _ _ x0 a1 (Ty.ow_rd (Ty.ow_bel (by repeat' (first | (with_reducible exact Below.refl _ _) | (with_reducible assumption) | (with_reducible refine bel_set ?_ (by (try dsimp only); omega) _) | (with_reducible refine bel_alloc ?_ _) | (with_reducible refine bel_drewN ?_ _) | (with_reducible refine bel_drew ?_))) how2)) s0 i1).mono ?_
  rintro e w3 ⟨cs3_, fp3, rfl, how3, hfr3, hb3⟩
  have st3 : Below w2.heap.size w2 w3 := bel_trans (by repeat' (first | (with_reducible exact Below.refl _ _) | (with_reducible assumption) | (with_reducible refine bel_set ?_ (by (try dsimp only); omega) _) | (with_reducible refine bel_alloc ?_ _) | (with_reducible refine bel_drewN ?_ _) | (with_reducible refine bel_drew ?_))) hb3
  have zz3 : w2.heap.size + 0 ≤ w3.heap.size := by have := hb3.size; (try simp only [World.size_alloc] at this); omega
  have vw_3 : Below w.heap.size w w3 := bel_trans vw_2 st3
  have za0_3 : w.heap.size < w3.heap.size := by omega
  have ea0_0_3 : w3.cell? ⟨w.heap.size, 0, none⟩ = some (.int .i64 x0.1) := (hb3.cell (by (try simp only [World.size_alloc]); (try dsimp only); omega)).trans ea0_0_2
  have ea0_1_3 : w3.cell? ⟨w.heap.size, 1, none⟩ = some (.slice A01 (List.length x0.2) c01) := (hb3.cell (by (try simp only [World.size_alloc]); (try dsimp only); omega)).trans ea0_1_2
  clear ea0_0_2 ea0_1_2
  obtain ⟨A3_1, c3_1, rfl⟩ := ow_ContentStore how3
  have frW0 : FrI (w2.heap.size + 0) w3.heap.size fp3 := hfr3.mono (by (try simp only [World.size_alloc]); omega) (Nat.le_refl _)
  have vW0_3 : Below w3.heap.size w3 w3 := Below.refl _ _
  go_wp2_with fail
  refine (C_laws_toContentStore _ _ x0 (Ty.rd_below (by repeat' (first | (with_reducible exact Below.refl _ _) | (with_reducible assumption) | (with_reducible refine bel_set ?_ (by (try dsimp only); omega) _) | (with_reducible refine bel_alloc ?_ _) | (with_reducible refine bel_drewN ?_ _) | (with_reducible refine bel_drew ?_))) h0) s0).mono ?_
  rintro e w4 ⟨cs4_, fp4, rfl, how4, hfr4, hb4⟩
  obtain ⟨A4_1, c4_1, rfl⟩ := ow_ContentStore how4
  have st4 : Below w3.heap.size w3 w4 := bel_trans (by repeat' (first | (with_reducible exact Below.refl _ _) | (with_reducible assumption) | (with_reducible refine bel_set ?_ (by (try dsimp only); omega) _) | (with_reducible refine bel_alloc ?_ _) | (with_reducible refine bel_drewN ?_ _) | (with_reducible refine bel_drew ?_))) hb4
  have zz4 : w3.heap.size + 1 ≤ w4.heap.size := by have := hb4.size; (try simp only [World.size_alloc] at this); omega
  have vw_4 : Below w.heap.size w w4 := bel_trans vw_3 st4
  have vW0_4 : Below w3.heap.size w3 w4 := st4
  have za0_4 : w.heap.size < w4.heap.size := by omega
  have ea0_0_4 : w4.cell? ⟨w.heap.size, 0, none⟩ = some (.int .i64 x0.1) := (hb4.cell (by (try simp only [World.size_alloc]); (try dsimp only); omega)).trans ((World.cell?_alloc_lt _ _ _ (by (try simp only [World.size_alloc]); (try dsimp only); omega)).trans ea0_0_3)
  have ea0_1_4 : w4.cell? ⟨w.heap.size, 1, none⟩ = some (.slice A01 (List.length x0.2) c01) := (hb4.cell (by (try simp only [World.size_alloc]); (try dsimp only); omega)).trans ((World.cell?_alloc_lt _ _ _ (by (try simp only [World.size_alloc]); (try dsimp only); omega)).trans ea0_1_3)
  have zw0_4 : w3.heap.size < w4.heap.size := by omega
  have ew0_0_4 : w4.cell? ⟨w3.heap.size, 0, none⟩ = some (.int .i64 (f_EvictStale x0 a1).1) := (hb4.cell (by (try simp only [World.size_alloc]); (try dsimp only); omega)).trans ((cell_new w3 24 #[.int .i64 (f_EvictStale x0 a1).1, .slice A3_1 (List.length (f_EvictStale x0 a1).2) c3_1] 0 (by first | rfl | (simp only [World.size_alloc]))) : _ = some (Value.int .i64 (f_EvictStale x0 a1).1))
  have ew0_1_4 : w4.cell? ⟨w3.heap.size, 1, none⟩ = some (.slice A3_1 (List.length (f_EvictStale x0 a1).2) c3_1) := (hb4.cell (by (try simp only [World.size_alloc]); (try dsimp only); omega)).trans ((cell_new w3 24 #[.int .i64 (f_EvictStale x0 a1).1, .slice A3_1 (List.length (f_EvictStale x0 a1).2) c3_1] 1 (by first | rfl | (simp only [World.size_alloc]))) : _ = some (Value.slice A3_1 (List.length (f_EvictStale x0 a1).2) c3_1))
  clear ea0_0_3 ea0_1_3
  have frX0 : FrI (w3.heap.size + 1) w4.heap.size fp4 := hfr4.mono (by (try simp only [World.size_alloc]); omega) (Nat.le_refl _)
  have vX0_4 : Below w4.heap.size w4 w4 := Below.refl _ _
  go_wp2_with fail
  refine (C_impl_EvictStale _ _ x0 a1 (Ty.ow_rd (Ty.ow_bel (by repeat' (first | (with_reducible exact Below.refl _ _) | (with_reducible assumption) | (with_reducible refine bel_set ?_ (by (try dsimp only); omega) _) | (with_reducible refine bel_alloc ?_ _) | (with_reducible refine bel_drewN ?_ _) | (with_reducible refine bel_drew ?_))) how4)) s0 i1).mono ?_
  rintro e w5 ⟨cs5_, fp5, rfl, how5, hfr5, hb5⟩
  have st5 : Below w4.heap.size w4 w5 := bel_trans (by repeat' (first | (with_reducible exact Below.refl _ _) | (with_reducible assumption) | (with_reducible refine bel_set ?_ (by (try dsimp only); omega) _) | (with_reducible refine bel_alloc ?_ _) | (with_reducible refine bel_drewN ?_ _) | (with_reducible refine bel_drew ?_))) hb5
  have zz5 : w4.heap.size + 1 ≤ w5.heap.size := by have := hb5.size; (try simp only [World.size_alloc] at this); omega
  have vw_5 : Below w.heap.size w w5 := bel_trans vw_4 st5
  have vW0_5 : Below w3.heap.size w3 w5 := bel_trans vW0_4 st5
  have vX0_5 : Below w4.heap.size w4 w5 := st5
  have za0_5 : w.heap.size < w5.heap.size := by omega
  have ea0_0_5 : w5.cell? ⟨w.heap.size, 0, none⟩ = some (.int .i64 x0.1) := (hb5.cell (by (try simp only [World.size_alloc]); (try dsimp only); omega)).trans ((World.cell?_alloc_lt _ _ _ (by (try simp only [World.size_alloc]); (try dsimp only); omega)).trans ea0_0_4)
  have ea0_1_5 : w5.cell? ⟨w.heap.size, 1, none⟩ = some (.slice A01 (List.length x0.2) c01) := (hb5.cell (by (try simp only [World.size_alloc]); (try dsimp only); omega)).trans ((World.cell?_alloc_lt _ _ _ (by (try simp only [World.size_alloc]); (try dsimp only); omega)).trans ea0_1_4)
  have zw0_5 : w3.heap.size < w5.heap.size := by omega
  have ew0_0_5 : w5.cell? ⟨w3.heap.size, 0, none⟩ = some (.int .i64 (f_EvictStale x0 a1).1) := (hb5.cell (by (try simp only [World.size_alloc]); (try dsimp only); omega)).trans ((World.cell?_alloc_lt _ _ _ (by (try simp only [World.size_alloc]); (try dsimp only); omega)).trans ew0_0_4)
  have ew0_1_5 : w5.cell? ⟨w3.heap.size, 1, none⟩ = some (.slice A3_1 (List.length (f_EvictStale x0 a1).2) c3_1) := (hb5.cell (by (try simp only [World.size_alloc]); (try dsimp only); omega)).trans ((World.cell?_alloc_lt _ _ _ (by (try simp only [World.size_alloc]); (try dsimp only); omega)).trans ew0_1_4)
  have zx0_5 : w4.heap.size < w5.heap.size := by omega
  have ex0_0_5 : w5.cell? ⟨w4.heap.size, 0, none⟩ = some (.int .i64 x0.1) := (hb5.cell (by (try simp only [World.size_alloc]); (try dsimp only); omega)).trans ((cell_new w4 24 #[.int .i64 x0.1, .slice A4_1 (List.length x0.2) c4_1] 0 (by first | rfl | (simp only [World.size_alloc]))) : _ = some (Value.int .i64 x0.1))
  have ex0_1_5 : w5.cell? ⟨w4.heap.size, 1, none⟩ = some (.slice A4_1 (List.length x0.2) c4_1) := (hb5.cell (by (try simp only [World.size_alloc]); (try dsimp only); omega)).trans ((cell_new w4 24 #[.int .i64 x0.1, .slice A4_1 (List.length x0.2) c4_1] 1 (by first | rfl | (simp only [World.size_alloc]))) : _ = some (Value.slice A4_1 (List.length x0.2) c4_1))
  clear ea0_0_4 ea0_1_4 ew0_0_4 ew0_1_4
  obtain ⟨A5_1, c5_1, rfl⟩ := ow_ContentStore how5
  have frG0 : FrI (w4.heap.size + 1) w5.heap.size fp5 := hfr5.mono (by (try simp only [World.size_alloc]); omega) (Nat.le_refl _)
  have vG0_5 : Below w5.heap.size w5 w5 := Below.refl _ _
  go_wp2_with fail
  refine (C_laws_eqContentStore _ _ _ (f_EvictStale x0 a1) (Ty.ow_rd (Ty.ow_bel (by repeat' (first | (with_reducible exact Below.refl _ _) | (with_reducible assumption) | (with_reducible refine bel_set ?_ (by (try dsimp only); omega) _) | (with_reducible refine bel_alloc ?_ _) | (with_reducible refine bel_drewN ?_ _) | (with_reducible refine bel_drew ?_))) how5)) (Ty.ow_rd (Ty.ow_bel (by repeat' (first | (with_reducible exact Below.refl _ _) | (with_reducible assumption) | (with_reducible refine bel_set ?_ (by (try dsimp only); omega) _) | (with_reducible refine bel_alloc ?_ _) | (with_reducible refine bel_drewN ?_ _) | (with_reducible refine bel_drew ?_))) how3))).mono ?_
  rintro e w6 ⟨rfl, hb6⟩
  have st6 : Below w5.heap.size w5 w6 := bel_trans (by repeat' (first | (with_reducible exact Below.refl _ _) | (with_reducible assumption) | (with_reducible refine bel_set ?_ (by (try dsimp only); omega) _) | (with_reducible refine bel_alloc ?_ _) | (with_reducible refine bel_drewN ?_ _) | (with_reducible refine bel_drew ?_))) hb6
  have zz6 : w5.heap.size + 1 ≤ w6.heap.size := by have := hb6.size; (try simp only [World.size_alloc] at this); omega
  have vw_6 : Below w.heap.size w w6 := bel_trans vw_5 st6
  have vW0_6 : Below w3.heap.size w3 w6 := bel_trans vW0_5 st6
  have vX0_6 : Below w4.heap.size w4 w6 := bel_trans vX0_5 st6
  have vG0_6 : Below w5.heap.size w5 w6 := st6
  have za0_6 : w.heap.size < w6.heap.size := by omega
  have ea0_0_6 : w6.cell? ⟨w.heap.size, 0, none⟩ = some (.int .i64 x0.1) := (hb6.cell (by (try simp only [World.size_alloc]); (try dsimp only); omega)).trans ((World.cell?_alloc_lt _ _ _ (by (try simp only [World.size_alloc]); (try dsimp only); omega)).trans ea0_0_5)
  have ea0_1_6 : w6.cell? ⟨w.heap.size, 1, none⟩ = some (.slice A01 (List.length x0.2) c01) := (hb6.cell (by (try simp only [World.size_alloc]); (try dsimp only); omega)).trans ((World.cell?_alloc_lt _ _ _ (by (try simp only [World.size_alloc]); (try dsimp only); omega)).trans ea0_1_5)
  have zw0_6 : w3.heap.size < w6.heap.size := by omega
  have ew0_0_6 : w6.cell? ⟨w3.heap.size, 0, none⟩ = some (.int .i64 (f_EvictStale x0 a1).1) := (hb6.cell (by (try simp only [World.size_alloc]); (try dsimp only); omega)).trans ((World.cell?_alloc_lt _ _ _ (by (try simp only [World.size_alloc]); (try dsimp only); omega)).trans ew0_0_5)
  have ew0_1_6 : w6.cell? ⟨w3.heap.size, 1, none⟩ = some (.slice A3_1 (List.length (f_EvictStale x0 a1).2) c3_1) := (hb6.cell (by (try simp only [World.size_alloc]); (try dsimp only); omega)).trans ((World.cell?_alloc_lt _ _ _ (by (try simp only [World.size_alloc]); (try dsimp only); omega)).trans ew0_1_5)
  have zx0_6 : w4.heap.size < w6.heap.size := by omega
  have ex0_0_6 : w6.cell? ⟨w4.heap.size, 0, none⟩ = some (.int .i64 x0.1) := (hb6.cell (by (try simp only [World.size_alloc]); (try dsimp only); omega)).trans ((World.cell?_alloc_lt _ _ _ (by (try simp only [World.size_alloc]); (try dsimp only); omega)).trans ex0_0_5)
  have ex0_1_6 : w6.cell? ⟨w4.heap.size, 1, none⟩ = some (.slice A4_1 (List.length x0.2) c4_1) := (hb6.cell (by (try simp only [World.size_alloc]); (try dsimp only); omega)).trans ((World.cell?_alloc_lt _ _ _ (by (try simp only [World.size_alloc]); (try dsimp only); omega)).trans ex0_1_5)
  have zg0_6 : w5.heap.size < w6.heap.size := by omega
  have eg0_0_6 : w6.cell? ⟨w5.heap.size, 0, none⟩ = some (.int .i64 (f_EvictStale x0 a1).1) := (hb6.cell (by (try simp only [World.size_alloc]); (try dsimp only); omega)).trans ((cell_new w5 24 #[.int .i64 (f_EvictStale x0 a1).1, .slice A5_1 (List.length (f_EvictStale x0 a1).2) c5_1] 0 (by first | rfl | (simp only [World.size_alloc]))) : _ = some (Value.int .i64 (f_EvictStale x0 a1).1))
  have eg0_1_6 : w6.cell? ⟨w5.heap.size, 1, none⟩ = some (.slice A5_1 (List.length (f_EvictStale x0 a1).2) c5_1) := (hb6.cell (by (try simp only [World.size_alloc]); (try dsimp only); omega)).trans ((cell_new w5 24 #[.int .i64 (f_EvictStale x0 a1).1, .slice A5_1 (List.length (f_EvictStale x0 a1).2) c5_1] 1 (by first | rfl | (simp only [World.size_alloc]))) : _ = some (Value.slice A5_1 (List.length (f_EvictStale x0 a1).2) c5_1))
  clear ea0_0_5 ea0_1_5 ew0_0_5 ew0_1_5 ex0_0_5 ex0_1_5
  have HSq0 : Hid (∀ W, Below w6.heap.size w6 W → Below w6.heap.size w6 W ∧ W.cell? ⟨w.heap.size, 0, none⟩ = some (.int .i64 x0.1) ∧ W.cell? ⟨w.heap.size, 1, none⟩ = some (.slice A01 (List.length x0.2) c01) ∧ W.cell? ⟨w3.heap.size, 0, none⟩ = some (.int .i64 (f_EvictStale x0 a1).1) ∧ W.cell? ⟨w3.heap.size, 1, none⟩ = some (.slice A3_1 (List.length (f_EvictStale x0 a1).2) c3_1) ∧ W.cell? ⟨w4.heap.size, 0, none⟩ = some (.int .i64 x0.1) ∧ W.cell? ⟨w4.heap.size, 1, none⟩ = some (.slice A4_1 (List.length x0.2) c4_1) ∧ W.cell? ⟨w5.heap.size, 0, none⟩ = some (.int .i64 (f_EvictStale x0 a1).1) ∧ W.cell? ⟨w5.heap.size, 1, none⟩ = some (.slice A5_1 (List.length (f_EvictStale x0 a1).2) c5_1)) := fun W hW => ⟨hW, (hW.cell za0_6).trans ea0_0_6, (hW.cell za0_6).trans ea0_1_6, (hW.cell zw0_6).trans ew0_0_6, (hW.cell zw0_6).trans ew0_1_6, (hW.cell zx0_6).trans ex0_0_6, (hW.cell zx0_6).trans ex0_1_6, (hW.cell zg0_6).trans eg0_0_6, (hW.cell zg0_6).trans eg0_1_6⟩
  go_wp2_with fail
  go_region_held3 (fun W => Below w6.heap.size w6 W ∧ W.cell? ⟨w.heap.size, 0, none⟩ = some (.int .i64 x0.1) ∧ W.cell? ⟨w.heap.size, 1, none⟩ = some (.slice A01 (List.length x0.2) c01) ∧ W.cell? ⟨w3.heap.size, 0, none⟩ = some (.int .i64 (f_EvictStale x0 a1).1) ∧ W.cell? ⟨w3.heap.size, 1, none⟩ = some (.slice A3_1 (List.length (f_EvictStale x0 a1).2) c3_1) ∧ W.cell? ⟨w4.heap.size, 0, none⟩ = some (.int .i64 x0.1) ∧ W.cell? ⟨w4.heap.size, 1, none⟩ = some (.slice A4_1 (List.length x0.2) c4_1) ∧ W.cell? ⟨w5.heap.size, 0, none⟩ = some (.int .i64 (f_EvictStale x0 a1).1) ∧ W.cell? ⟨w5.heap.size, 1, none⟩ = some (.slice A5_1 (List.length (f_EvictStale x0 a1).2) c5_1)) (exact HSq0.out _ (by repeat' (first | (with_reducible exact Below.refl _ _) | (with_reducible assumption) | (with_reducible refine bel_set ?_ (by (try dsimp only); omega) _) | (with_reducible refine bel_alloc ?_ _) | (with_reducible refine bel_drewN ?_ _) | (with_reducible refine bel_drew ?_))))
    (first
      | (go_at_call 21; (with_reducible refine (C_laws_toContentStore _ _ x0 (Ty.rd_below (by repeat' (first | (with_reducible exact Below.refl _ _) | (with_reducible assumption) | (with_reducible refine bel_set ?_ (by (try dsimp only); omega) _) | (with_reducible refine bel_alloc ?_ _) | (with_reducible refine bel_drewN ?_ _) | (with_reducible refine bel_drew ?_))) h0) s0).mono ?_); rintro e wq ⟨csq, fpq, rfl, howq, hfrq, hbq⟩; have hvq : Below w6.heap.size w6 wq := bel_trans (by repeat' (first | (with_reducible exact Below.refl _ _) | (with_reducible assumption) | (with_reducible refine bel_set ?_ (by (try dsimp only); omega) _) | (with_reducible refine bel_alloc ?_ _) | (with_reducible refine bel_drewN ?_ _) | (with_reducible refine bel_drew ?_))) hbq; have hxq : Below w4.heap.size w4 wq := bel_trans vX0_6 hvq)
      | (go_at_call 16; (with_reducible refine (C_laws_eqContentStore _ _ _ x0 (Ty.rd_below hxq (Ty.ow_rd how4)) (Ty.ow_rd howq)).mono ?_); rintro e w7 ⟨rfl, hb7⟩; have hvz : Below w6.heap.size w6 w7 := bel_trans hvq hb7))
  have st7 : Below w6.heap.size w6 w7 := hvz
  clear hvz
  have zz7 : w6.heap.size ≤ w7.heap.size := st7.size
  have vw_7 : Below w.heap.size w w7 := bel_trans vw_6 st7
  have vW0_7 : Below w3.heap.size w3 w7 := bel_trans vW0_6 st7
  have vX0_7 : Below w4.heap.size w4 w7 := bel_trans vX0_6 st7
  have vG0_7 : Below w5.heap.size w5 w7 := bel_trans vG0_6 st7
  have za0_7 : w.heap.size < w7.heap.size := by omega
  have ea0_0_7 : w7.cell? ⟨w.heap.size, 0, none⟩ = some (.int .i64 x0.1) := (st7.cell za0_6).trans ea0_0_6
  have ea0_1_7 : w7.cell? ⟨w.heap.size, 1, none⟩ = some (.slice A01 (List.length x0.2) c01) := (st7.cell za0_6).trans ea0_1_6
  have zw0_7 : w3.heap.size < w7.heap.size := by omega
  have ew0_0_7 : w7.cell? ⟨w3.heap.size, 0, none⟩ = some (.int .i64 (f_EvictStale x0 a1).1) := (st7.cell zw0_6).trans ew0_0_6
  have ew0_1_7 : w7.cell? ⟨w3.heap.size, 1, none⟩ = some (.slice A3_1 (List.length (f_EvictStale x0 a1).2) c3_1) := (st7.cell zw0_6).trans ew0_1_6
  have zx0_7 : w4.heap.size < w7.heap.size := by omega
  have ex0_0_7 : w7.cell? ⟨w4.heap.size, 0, none⟩ = some (.int .i64 x0.1) := (st7.cell zx0_6).trans ex0_0_6
  have ex0_1_7 : w7.cell? ⟨w4.heap.size, 1, none⟩ = some (.slice A4_1 (List.length x0.2) c4_1) := (st7.cell zx0_6).trans ex0_1_6
  have zg0_7 : w5.heap.size < w7.heap.size := by omega
  have eg0_0_7 : w7.cell? ⟨w5.heap.size, 0, none⟩ = some (.int .i64 (f_EvictStale x0 a1).1) := (st7.cell zg0_6).trans eg0_0_6
  have eg0_1_7 : w7.cell? ⟨w5.heap.size, 1, none⟩ = some (.slice A5_1 (List.length (f_EvictStale x0 a1).2) c5_1) := (st7.cell zg0_6).trans eg0_1_6
  clear ea0_0_6 ea0_1_6 ew0_0_6 ew0_1_6 ex0_0_6 ex0_1_6 eg0_0_6 eg0_1_6
  have cb0 : Ty.cntv tContentStore x0 ≤ 100000000 := Nat.le_trans (Ty.cntv_le tContentStore x0) (Nat.le_trans (Nat.mul_le_mul_left _ s0) (by decide))
  have cbG : Ty.cntv tContentStore (f_EvictStale x0 a1) ≤ 100000000000 := N_EvictStale s0
  go_wp2_with fail
  refine (C_laws_markContentStore _ _ x0 fp4 (1) (Ty.ow_bel (by repeat' (first | (with_reducible exact Below.refl _ _) | (with_reducible assumption) | (with_reducible refine bel_set ?_ (by (try dsimp only); omega) _) | (with_reducible refine bel_alloc ?_ _) | (with_reducible refine bel_drewN ?_ _) | (with_reducible refine bel_drew ?_))) how4) frX0.1 (by omega) (by omega)).mono ?_
  rintro e w8 ⟨rfl, hm8, hk8⟩
  have zz8 : w7.heap.size ≤ w8.heap.size := hk8.size
  have szl8 : w.heap.size ≤ w3.heap.size := vw_3.size
  have vw_8 : Below w.heap.size w w8 := vw_7.trans (hk8.below vw_7.size (fun y hy => by have := frX0.2 y hy; omega))
  have howW0_8 : Ty.ow w8 tContentStore [.int .i64 (f_EvictStale x0 a1).1, .slice A3_1 (List.length (f_EvictStale x0 a1).2) c3_1] (f_EvictStale x0 a1) fp3 := Ty.ow_keep (fun y hy => (hk8.block y (Nat.lt_of_lt_of_le (Ty.ow_lt how3 y hy) vW0_7.size) (fun hy2 => by have := frW0.2 y hy; have := frX0.2 y hy2; omega)).trans (vW0_7.block y (Ty.ow_lt how3 y hy))) how3
  have vW0_8 : Below w8.heap.size w8 w8 := Below.refl _ _
  have howG0_8 : Ty.ow w8 tContentStore [.int .i64 (f_EvictStale x0 a1).1, .slice A5_1 (List.length (f_EvictStale x0 a1).2) c5_1] (f_EvictStale x0 a1) fp5 := Ty.ow_keep (fun y hy => (hk8.block y (Nat.lt_of_lt_of_le (Ty.ow_lt how5 y hy) vG0_7.size) (fun hy2 => by have := frG0.2 y hy; have := frX0.2 y hy2; omega)).trans (vG0_7.block y (Ty.ow_lt how5 y hy))) how5
  have vG0_8 : Below w8.heap.size w8 w8 := Below.refl _ _
  have za0_8 : w.heap.size < w8.heap.size := by omega
  have hBa0_8 : w8.heap[w.heap.size]? = w7.heap[w.heap.size]? := hk8.block _ za0_7 (fun hy => by have := frX0.2 _ hy; omega)
  have ea0_0_8 : w8.cell? ⟨w.heap.size, 0, none⟩ = some (.int .i64 x0.1) := (cell_of_heap hBa0_8 0).trans ea0_0_7
  have ea0_1_8 : w8.cell? ⟨w.heap.size, 1, none⟩ = some (.slice A01 (List.length x0.2) c01) := (cell_of_heap hBa0_8 1).trans ea0_1_7
  have zw0_8 : w3.heap.size < w8.heap.size := by omega
  have hBw0_8 : w8.heap[w3.heap.size]? = w7.heap[w3.heap.size]? := hk8.block _ zw0_7 (fun hy => by have := frX0.2 _ hy; omega)
  have ew0_0_8 : w8.cell? ⟨w3.heap.size, 0, none⟩ = some (.int .i64 (f_EvictStale x0 a1).1) := (cell_of_heap hBw0_8 0).trans ew0_0_7
  have ew0_1_8 : w8.cell? ⟨w3.heap.size, 1, none⟩ = some (.slice A3_1 (List.length (f_EvictStale x0 a1).2) c3_1) := (cell_of_heap hBw0_8 1).trans ew0_1_7
  have zx0_8 : w4.heap.size < w8.heap.size := by omega
  have hBx0_8 : w8.heap[w4.heap.size]? = w7.heap[w4.heap.size]? := hk8.block _ zx0_7 (fun hy => by have := frX0.2 _ hy; omega)
  have ex0_0_8 : w8.cell? ⟨w4.heap.size, 0, none⟩ = some (.int .i64 x0.1) := (cell_of_heap hBx0_8 0).trans ex0_0_7
  have ex0_1_8 : w8.cell? ⟨w4.heap.size, 1, none⟩ = some (.slice A4_1 (List.length x0.2) c4_1) := (cell_of_heap hBx0_8 1).trans ex0_1_7
  have zg0_8 : w5.heap.size < w8.heap.size := by omega
  have hBg0_8 : w8.heap[w5.heap.size]? = w7.heap[w5.heap.size]? := hk8.block _ zg0_7 (fun hy => by have := frX0.2 _ hy; omega)
  have eg0_0_8 : w8.cell? ⟨w5.heap.size, 0, none⟩ = some (.int .i64 (f_EvictStale x0 a1).1) := (cell_of_heap hBg0_8 0).trans eg0_0_7
  have eg0_1_8 : w8.cell? ⟨w5.heap.size, 1, none⟩ = some (.slice A5_1 (List.length (f_EvictStale x0 a1).2) c5_1) := (cell_of_heap hBg0_8 1).trans eg0_1_7
  clear ea0_0_7 ea0_1_7 ew0_0_7 ew0_1_7 ex0_0_7 ex0_1_7 eg0_0_7 eg0_1_7
  go_wp2_with fail
  refine (C_laws_eqContentStore _ _ _ (f_EvictStale x0 a1) (Ty.ow_rd (Ty.ow_bel (by repeat' (first | (with_reducible exact Below.refl _ _) | (with_reducible assumption) | (with_reducible refine bel_set ?_ (by (try dsimp only); omega) _) | (with_reducible refine bel_alloc ?_ _) | (with_reducible refine bel_drewN ?_ _) | (with_reducible refine bel_drew ?_))) howG0_8)) (Ty.ow_rd (Ty.ow_bel (by repeat' (first | (with_reducible exact Below.refl _ _) | (with_reducible assumption) | (with_reducible refine bel_set ?_ (by (try dsimp only); omega) _) | (with_reducible refine bel_alloc ?_ _) | (with_reducible refine bel_drewN ?_ _) | (with_reducible refine bel_drew ?_))) howW0_8))).mono ?_
  rintro e w9 ⟨rfl, hb9⟩
  have st9 : Below w8.heap.size w8 w9 := bel_trans (by repeat' (first | (with_reducible exact Below.refl _ _) | (with_reducible assumption) | (with_reducible refine bel_set ?_ (by (try dsimp only); omega) _) | (with_reducible refine bel_alloc ?_ _) | (with_reducible refine bel_drewN ?_ _) | (with_reducible refine bel_drew ?_))) hb9
  have zz9 : w8.heap.size + 0 ≤ w9.heap.size := by have := hb9.size; (try simp only [World.size_alloc] at this); omega
  have vw_9 : Below w.heap.size w w9 := bel_trans vw_8 st9
  have vW0_9 : Below w8.heap.size w8 w9 := st9
  have vG0_9 : Below w8.heap.size w8 w9 := st9
  have za0_9 : w.heap.size < w9.heap.size := by omega
  have ea0_0_9 : w9.cell? ⟨w.heap.size, 0, none⟩ = some (.int .i64 x0.1) := (hb9.cell (by (try simp only [World.size_alloc]); (try dsimp only); omega)).trans ea0_0_8
  have ea0_1_9 : w9.cell? ⟨w.heap.size, 1, none⟩ = some (.slice A01 (List.length x0.2) c01) := (hb9.cell (by (try simp only [World.size_alloc]); (try dsimp only); omega)).trans ea0_1_8
  have zw0_9 : w3.heap.size < w9.heap.size := by omega
  have ew0_0_9 : w9.cell? ⟨w3.heap.size, 0, none⟩ = some (.int .i64 (f_EvictStale x0 a1).1) := (hb9.cell (by (try simp only [World.size_alloc]); (try dsimp only); omega)).trans ew0_0_8
  have ew0_1_9 : w9.cell? ⟨w3.heap.size, 1, none⟩ = some (.slice A3_1 (List.length (f_EvictStale x0 a1).2) c3_1) := (hb9.cell (by (try simp only [World.size_alloc]); (try dsimp only); omega)).trans ew0_1_8
  have zx0_9 : w4.heap.size < w9.heap.size := by omega
  have ex0_0_9 : w9.cell? ⟨w4.heap.size, 0, none⟩ = some (.int .i64 x0.1) := (hb9.cell (by (try simp only [World.size_alloc]); (try dsimp only); omega)).trans ex0_0_8
  have ex0_1_9 : w9.cell? ⟨w4.heap.size, 1, none⟩ = some (.slice A4_1 (List.length x0.2) c4_1) := (hb9.cell (by (try simp only [World.size_alloc]); (try dsimp only); omega)).trans ex0_1_8
  have zg0_9 : w5.heap.size < w9.heap.size := by omega
  have eg0_0_9 : w9.cell? ⟨w5.heap.size, 0, none⟩ = some (.int .i64 (f_EvictStale x0 a1).1) := (hb9.cell (by (try simp only [World.size_alloc]); (try dsimp only); omega)).trans eg0_0_8
  have eg0_1_9 : w9.cell? ⟨w5.heap.size, 1, none⟩ = some (.slice A5_1 (List.length (f_EvictStale x0 a1).2) c5_1) := (hb9.cell (by (try simp only [World.size_alloc]); (try dsimp only); omega)).trans eg0_1_8
  clear ea0_0_8 ea0_1_8 ew0_0_8 ew0_1_8 ex0_0_8 ex0_1_8 eg0_0_8 eg0_1_8
  go_wp2_with fail
  refine (C_laws_markContentStore _ _ (f_EvictStale x0 a1) fp5 (1) (Ty.ow_bel (by repeat' (first | (with_reducible exact Below.refl _ _) | (with_reducible assumption) | (with_reducible refine bel_set ?_ (by (try dsimp only); omega) _) | (with_reducible refine bel_alloc ?_ _) | (with_reducible refine bel_drewN ?_ _) | (with_reducible refine bel_drew ?_))) howG0_8) frG0.1 (by omega) (by omega)).mono ?_
  rintro e w10 ⟨rfl, hm10, hk10⟩
  have zz10 : w9.heap.size ≤ w10.heap.size := hk10.size
  have szl10 : w.heap.size ≤ w4.heap.size := vw_4.size
  have vw_10 : Below w.heap.size w w10 := vw_9.trans (hk10.below vw_9.size (fun y hy => by have := frG0.2 y hy; omega))
  have howW0_10 : Ty.ow w10 tContentStore [.int .i64 (f_EvictStale x0 a1).1, .slice A3_1 (List.length (f_EvictStale x0 a1).2) c3_1] (f_EvictStale x0 a1) fp3 := Ty.ow_keep (fun y hy => (hk10.block y (Nat.lt_of_lt_of_le (Ty.ow_lt howW0_8 y hy) vW0_9.size) (fun hy2 => by have := frW0.2 y hy; have := frG0.2 y hy2; omega)).trans (vW0_9.block y (Ty.ow_lt howW0_8 y hy))) howW0_8
  have vW0_10 : Below w10.heap.size w10 w10 := Below.refl _ _
  have za0_10 : w.heap.size < w10.heap.size := by omega
  have hBa0_10 : w10.heap[w.heap.size]? = w9.heap[w.heap.size]? := hk10.block _ za0_9 (fun hy => by have := frG0.2 _ hy; omega)
  have ea0_0_10 : w10.cell? ⟨w.heap.size, 0, none⟩ = some (.int .i64 x0.1) := (cell_of_heap hBa0_10 0).trans ea0_0_9
  have ea0_1_10 : w10.cell? ⟨w.heap.size, 1, none⟩ = some (.slice A01 (List.length x0.2) c01) := (cell_of_heap hBa0_10 1).trans ea0_1_9
  have zw0_10 : w3.heap.size < w10.heap.size := by omega
  have hBw0_10 : w10.heap[w3.heap.size]? = w9.heap[w3.heap.size]? := hk10.block _ zw0_9 (fun hy => by have := frG0.2 _ hy; omega)
  have ew0_0_10 : w10.cell? ⟨w3.heap.size, 0, none⟩ = some (.int .i64 (f_EvictStale x0 a1).1) := (cell_of_heap hBw0_10 0).trans ew0_0_9
  have ew0_1_10 : w10.cell? ⟨w3.heap.size, 1, none⟩ = some (.slice A3_1 (List.length (f_EvictStale x0 a1).2) c3_1) := (cell_of_heap hBw0_10 1).trans ew0_1_9
  have zx0_10 : w4.heap.size < w10.heap.size := by omega
  have hBx0_10 : w10.heap[w4.heap.size]? = w9.heap[w4.heap.size]? := hk10.block _ zx0_9 (fun hy => by have := frG0.2 _ hy; omega)
  have ex0_0_10 : w10.cell? ⟨w4.heap.size, 0, none⟩ = some (.int .i64 x0.1) := (cell_of_heap hBx0_10 0).trans ex0_0_9
  have ex0_1_10 : w10.cell? ⟨w4.heap.size, 1, none⟩ = some (.slice A4_1 (List.length x0.2) c4_1) := (cell_of_heap hBx0_10 1).trans ex0_1_9
  have zg0_10 : w5.heap.size < w10.heap.size := by omega
  have hBg0_10 : w10.heap[w5.heap.size]? = w9.heap[w5.heap.size]? := hk10.block _ zg0_9 (fun hy => by have := frG0.2 _ hy; omega)
  have eg0_0_10 : w10.cell? ⟨w5.heap.size, 0, none⟩ = some (.int .i64 (f_EvictStale x0 a1).1) := (cell_of_heap hBg0_10 0).trans eg0_0_9
  have eg0_1_10 : w10.cell? ⟨w5.heap.size, 1, none⟩ = some (.slice A5_1 (List.length (f_EvictStale x0 a1).2) c5_1) := (cell_of_heap hBg0_10 1).trans eg0_1_9
  clear ea0_0_9 ea0_1_9 ew0_0_9 ew0_1_9 ex0_0_9 ex0_1_9 eg0_0_9 eg0_1_9
  have frM : FrI (w4.heap.size + 1) w5.heap.size fp5 := frG0
  have vM0_10 : Below w10.heap.size w10 w10 := Below.refl _ _
  have hqm : ((1 + ((Ty.cntv tContentStore (f_EvictStale x0 a1) : Nat) : Int) : Int) != 1 + ((Ty.cntv tContentStore (f_EvictStale x0 a1) : Nat) : Int)) = false := by simp
  go_wp2_with fail
  refine (C_laws_heldContentStore _ _ (f_EvictStale x0 a1) 1 (Ty.ow_rd (Ty.ow_bel (by repeat' (first | (with_reducible exact Below.refl _ _) | (with_reducible assumption) | (with_reducible refine bel_set ?_ (by (try dsimp only); omega) _) | (with_reducible refine bel_alloc ?_ _) | (with_reducible refine bel_drewN ?_ _) | (with_reducible refine bel_drew ?_))) hm10)) (by omega) (by omega)).mono ?_
  rintro e w11 ⟨rfl, hb11⟩
  have st11 : Below w10.heap.size w10 w11 := bel_trans (by repeat' (first | (with_reducible exact Below.refl _ _) | (with_reducible assumption) | (with_reducible refine bel_set ?_ (by (try dsimp only); omega) _) | (with_reducible refine bel_alloc ?_ _) | (with_reducible refine bel_drewN ?_ _) | (with_reducible refine bel_drew ?_))) hb11
  have zz11 : w10.heap.size + 0 ≤ w11.heap.size := by have := hb11.size; (try simp only [World.size_alloc] at this); omega
  have vw_11 : Below w.heap.size w w11 := bel_trans vw_10 st11
  have vW0_11 : Below w10.heap.size w10 w11 := st11
  have vM0_11 : Below w10.heap.size w10 w11 := st11
  have za0_11 : w.heap.size < w11.heap.size := by omega
  have ea0_0_11 : w11.cell? ⟨w.heap.size, 0, none⟩ = some (.int .i64 x0.1) := (hb11.cell (by (try simp only [World.size_alloc]); (try dsimp only); omega)).trans ea0_0_10
  have ea0_1_11 : w11.cell? ⟨w.heap.size, 1, none⟩ = some (.slice A01 (List.length x0.2) c01) := (hb11.cell (by (try simp only [World.size_alloc]); (try dsimp only); omega)).trans ea0_1_10
  have zw0_11 : w3.heap.size < w11.heap.size := by omega
  have ew0_0_11 : w11.cell? ⟨w3.heap.size, 0, none⟩ = some (.int .i64 (f_EvictStale x0 a1).1) := (hb11.cell (by (try simp only [World.size_alloc]); (try dsimp only); omega)).trans ew0_0_10
  have ew0_1_11 : w11.cell? ⟨w3.heap.size, 1, none⟩ = some (.slice A3_1 (List.length (f_EvictStale x0 a1).2) c3_1) := (hb11.cell (by (try simp only [World.size_alloc]); (try dsimp only); omega)).trans ew0_1_10
  have zx0_11 : w4.heap.size < w11.heap.size := by omega
  have ex0_0_11 : w11.cell? ⟨w4.heap.size, 0, none⟩ = some (.int .i64 x0.1) := (hb11.cell (by (try simp only [World.size_alloc]); (try dsimp only); omega)).trans ex0_0_10
  have ex0_1_11 : w11.cell? ⟨w4.heap.size, 1, none⟩ = some (.slice A4_1 (List.length x0.2) c4_1) := (hb11.cell (by (try simp only [World.size_alloc]); (try dsimp only); omega)).trans ex0_1_10
  have zg0_11 : w5.heap.size < w11.heap.size := by omega
  have eg0_0_11 : w11.cell? ⟨w5.heap.size, 0, none⟩ = some (.int .i64 (f_EvictStale x0 a1).1) := (hb11.cell (by (try simp only [World.size_alloc]); (try dsimp only); omega)).trans eg0_0_10
  have eg0_1_11 : w11.cell? ⟨w5.heap.size, 1, none⟩ = some (.slice A5_1 (List.length (f_EvictStale x0 a1).2) c5_1) := (hb11.cell (by (try simp only [World.size_alloc]); (try dsimp only); omega)).trans eg0_1_10
  clear ea0_0_10 ea0_1_10 ew0_0_10 ew0_1_10 ex0_0_10 ex0_1_10 eg0_0_10 eg0_1_10
  go_wp2_with fail
  refine (C_laws_toContentStore _ _ x0 (Ty.rd_below (by repeat' (first | (with_reducible exact Below.refl _ _) | (with_reducible assumption) | (with_reducible refine bel_set ?_ (by (try dsimp only); omega) _) | (with_reducible refine bel_alloc ?_ _) | (with_reducible refine bel_drewN ?_ _) | (with_reducible refine bel_drew ?_))) h0) s0).mono ?_
  rintro e w12 ⟨cs12_, fp12, rfl, how12, hfr12, hb12⟩
  obtain ⟨A12_1, c12_1, rfl⟩ := ow_ContentStore how12
  have st12 : Below w11.heap.size w11 w12 := bel_trans (by repeat' (first | (with_reducible exact Below.refl _ _) | (with_reducible assumption) | (with_reducible refine bel_set ?_ (by (try dsimp only); omega) _) | (with_reducible refine bel_alloc ?_ _) | (with_reducible refine bel_drewN ?_ _) | (with_reducible refine bel_drew ?_))) hb12
  have zz12 : w11.heap.size + 0 ≤ w12.heap.size := by have := hb12.size; (try simp only [World.size_alloc] at this); omega
  have vw_12 : Below w.heap.size w w12 := bel_trans vw_11 st12
  have vW0_12 : Below w10.heap.size w10 w12 := bel_trans vW0_11 st12
  have vM0_12 : Below w10.heap.size w10 w12 := bel_trans vM0_11 st12
  have za0_12 : w.heap.size < w12.heap.size := by omega
  have ea0_0_12 : w12.cell? ⟨w.heap.size, 0, none⟩ = some (.int .i64 x0.1) := (hb12.cell (by (try simp only [World.size_alloc]); (try dsimp only); omega)).trans ea0_0_11
  have ea0_1_12 : w12.cell? ⟨w.heap.size, 1, none⟩ = some (.slice A01 (List.length x0.2) c01) := (hb12.cell (by (try simp only [World.size_alloc]); (try dsimp only); omega)).trans ea0_1_11
  have zw0_12 : w3.heap.size < w12.heap.size := by omega
  have ew0_0_12 : w12.cell? ⟨w3.heap.size, 0, none⟩ = some (.int .i64 (f_EvictStale x0 a1).1) := (hb12.cell (by (try simp only [World.size_alloc]); (try dsimp only); omega)).trans ew0_0_11
  have ew0_1_12 : w12.cell? ⟨w3.heap.size, 1, none⟩ = some (.slice A3_1 (List.length (f_EvictStale x0 a1).2) c3_1) := (hb12.cell (by (try simp only [World.size_alloc]); (try dsimp only); omega)).trans ew0_1_11
  have zx0_12 : w4.heap.size < w12.heap.size := by omega
  have ex0_0_12 : w12.cell? ⟨w4.heap.size, 0, none⟩ = some (.int .i64 x0.1) := (hb12.cell (by (try simp only [World.size_alloc]); (try dsimp only); omega)).trans ex0_0_11
  have ex0_1_12 : w12.cell? ⟨w4.heap.size, 1, none⟩ = some (.slice A4_1 (List.length x0.2) c4_1) := (hb12.cell (by (try simp only [World.size_alloc]); (try dsimp only); omega)).trans ex0_1_11
  have zg0_12 : w5.heap.size < w12.heap.size := by omega
  have eg0_0_12 : w12.cell? ⟨w5.heap.size, 0, none⟩ = some (.int .i64 (f_EvictStale x0 a1).1) := (hb12.cell (by (try simp only [World.size_alloc]); (try dsimp only); omega)).trans eg0_0_11
  have eg0_1_12 : w12.cell? ⟨w5.heap.size, 1, none⟩ = some (.slice A5_1 (List.length (f_EvictStale x0 a1).2) c5_1) := (hb12.cell (by (try simp only [World.size_alloc]); (try dsimp only); omega)).trans eg0_1_11
  clear ea0_0_11 ea0_1_11 ew0_0_11 ew0_1_11 ex0_0_11 ex0_1_11 eg0_0_11 eg0_1_11
  have vtr0_12 : Below w12.heap.size w12 w12 := Below.refl _ _
  go_wp2_with fail
  refine (C_impl_EvictStale _ _ x0 a1 (Ty.ow_rd (Ty.ow_bel (by repeat' (first | (with_reducible exact Below.refl _ _) | (with_reducible assumption) | (with_reducible refine bel_set ?_ (by (try dsimp only); omega) _) | (with_reducible refine bel_alloc ?_ _) | (with_reducible refine bel_drewN ?_ _) | (with_reducible refine bel_drew ?_))) how12)) s0 i1).mono ?_
  rintro e w13 ⟨cs13_, fp13, rfl, how13, hfr13, hb13⟩
  have st13 : Below w12.heap.size w12 w13 := bel_trans (by repeat' (first | (with_reducible exact Below.refl _ _) | (with_reducible assumption) | (with_reducible refine bel_set ?_ (by (try dsimp only); omega) _) | (with_reducible refine bel_alloc ?_ _) | (with_reducible refine bel_drewN ?_ _) | (with_reducible refine bel_drew ?_))) hb13
  have zz13 : w12.heap.size + 0 ≤ w13.heap.size := by have := hb13.size; (try simp only [World.size_alloc] at this); omega
  have vw_13 : Below w.heap.size w w13 := bel_trans vw_12 st13
  have vW0_13 : Below w10.heap.size w10 w13 := bel_trans vW0_12 st13
  have vM0_13 : Below w10.heap.size w10 w13 := bel_trans vM0_12 st13
  have za0_13 : w.heap.size < w13.heap.size := by omega
  have ea0_0_13 : w13.cell? ⟨w.heap.size, 0, none⟩ = some (.int .i64 x0.1) := (hb13.cell (by (try simp only [World.size_alloc]); (try dsimp only); omega)).trans ea0_0_12
  have ea0_1_13 : w13.cell? ⟨w.heap.size, 1, none⟩ = some (.slice A01 (List.length x0.2) c01) := (hb13.cell (by (try simp only [World.size_alloc]); (try dsimp only); omega)).trans ea0_1_12
  have zw0_13 : w3.heap.size < w13.heap.size := by omega
  have ew0_0_13 : w13.cell? ⟨w3.heap.size, 0, none⟩ = some (.int .i64 (f_EvictStale x0 a1).1) := (hb13.cell (by (try simp only [World.size_alloc]); (try dsimp only); omega)).trans ew0_0_12
  have ew0_1_13 : w13.cell? ⟨w3.heap.size, 1, none⟩ = some (.slice A3_1 (List.length (f_EvictStale x0 a1).2) c3_1) := (hb13.cell (by (try simp only [World.size_alloc]); (try dsimp only); omega)).trans ew0_1_12
  have zx0_13 : w4.heap.size < w13.heap.size := by omega
  have ex0_0_13 : w13.cell? ⟨w4.heap.size, 0, none⟩ = some (.int .i64 x0.1) := (hb13.cell (by (try simp only [World.size_alloc]); (try dsimp only); omega)).trans ex0_0_12
  have ex0_1_13 : w13.cell? ⟨w4.heap.size, 1, none⟩ = some (.slice A4_1 (List.length x0.2) c4_1) := (hb13.cell (by (try simp only [World.size_alloc]); (try dsimp only); omega)).trans ex0_1_12
  have zg0_13 : w5.heap.size < w13.heap.size := by omega
  have eg0_0_13 : w13.cell? ⟨w5.heap.size, 0, none⟩ = some (.int .i64 (f_EvictStale x0 a1).1) := (hb13.cell (by (try simp only [World.size_alloc]); (try dsimp only); omega)).trans eg0_0_12
  have eg0_1_13 : w13.cell? ⟨w5.heap.size, 1, none⟩ = some (.slice A5_1 (List.length (f_EvictStale x0 a1).2) c5_1) := (hb13.cell (by (try simp only [World.size_alloc]); (try dsimp only); omega)).trans eg0_1_12
  clear ea0_0_12 ea0_1_12 ew0_0_12 ew0_1_12 ex0_0_12 ex0_1_12 eg0_0_12 eg0_1_12
  obtain ⟨A13_1, c13_1, rfl⟩ := ow_ContentStore how13
  have frH0 : FrI (w12.heap.size + 0) w13.heap.size fp13 := hfr13.mono (by (try simp only [World.size_alloc]); omega) (Nat.le_refl _)
  have vH0_13 : Below w13.heap.size w13 w13 := Below.refl _ _
  go_wp2_with fail
  refine (C_laws_eqContentStore _ _ _ (f_EvictStale x0 a1) (Ty.ow_rd (Ty.ow_bel (by repeat' (first | (with_reducible exact Below.refl _ _) | (with_reducible assumption) | (with_reducible refine bel_set ?_ (by (try dsimp only); omega) _) | (with_reducible refine bel_alloc ?_ _) | (with_reducible refine bel_drewN ?_ _) | (with_reducible refine bel_drew ?_))) how13)) (Ty.ow_rd (Ty.ow_bel (by repeat' (first | (with_reducible exact Below.refl _ _) | (with_reducible assumption) | (with_reducible refine bel_set ?_ (by (try dsimp only); omega) _) | (with_reducible refine bel_alloc ?_ _) | (with_reducible refine bel_drewN ?_ _) | (with_reducible refine bel_drew ?_))) howW0_10))).mono ?_
  rintro e w14 ⟨rfl, hb14⟩
  have st14 : Below w13.heap.size w13 w14 := bel_trans (by repeat' (first | (with_reducible exact Below.refl _ _) | (with_reducible assumption) | (with_reducible refine bel_set ?_ (by (try dsimp only); omega) _) | (with_reducible refine bel_alloc ?_ _) | (with_reducible refine bel_drewN ?_ _) | (with_reducible refine bel_drew ?_))) hb14
  have zz14 : w13.heap.size + 1 ≤ w14.heap.size := by have := hb14.size; (try simp only [World.size_alloc] at this); omega
  have vw_14 : Below w.heap.size w w14 := bel_trans vw_13 st14
  have vW0_14 : Below w10.heap.size w10 w14 := bel_trans vW0_13 st14
  have vM0_14 : Below w10.heap.size w10 w14 := bel_trans vM0_13 st14
  have vH0_14 : Below w13.heap.size w13 w14 := st14
  have za0_14 : w.heap.size < w14.heap.size := by omega
  have ea0_0_14 : w14.cell? ⟨w.heap.size, 0, none⟩ = some (.int .i64 x0.1) := (hb14.cell (by (try simp only [World.size_alloc]); (try dsimp only); omega)).trans ((World.cell?_alloc_lt _ _ _ (by (try simp only [World.size_alloc]); (try dsimp only); omega)).trans ea0_0_13)
  have ea0_1_14 : w14.cell? ⟨w.heap.size, 1, none⟩ = some (.slice A01 (List.length x0.2) c01) := (hb14.cell (by (try simp only [World.size_alloc]); (try dsimp only); omega)).trans ((World.cell?_alloc_lt _ _ _ (by (try simp only [World.size_alloc]); (try dsimp only); omega)).trans ea0_1_13)
  have zw0_14 : w3.heap.size < w14.heap.size := by omega
  have ew0_0_14 : w14.cell? ⟨w3.heap.size, 0, none⟩ = some (.int .i64 (f_EvictStale x0 a1).1) := (hb14.cell (by (try simp only [World.size_alloc]); (try dsimp only); omega)).trans ((World.cell?_alloc_lt _ _ _ (by (try simp only [World.size_alloc]); (try dsimp only); omega)).trans ew0_0_13)
  have ew0_1_14 : w14.cell? ⟨w3.heap.size, 1, none⟩ = some (.slice A3_1 (List.length (f_EvictStale x0 a1).2) c3_1) := (hb14.cell (by (try simp only [World.size_alloc]); (try dsimp only); omega)).trans ((World.cell?_alloc_lt _ _ _ (by (try simp only [World.size_alloc]); (try dsimp only); omega)).trans ew0_1_13)
  have zx0_14 : w4.heap.size < w14.heap.size := by omega
  have ex0_0_14 : w14.cell? ⟨w4.heap.size, 0, none⟩ = some (.int .i64 x0.1) := (hb14.cell (by (try simp only [World.size_alloc]); (try dsimp only); omega)).trans ((World.cell?_alloc_lt _ _ _ (by (try simp only [World.size_alloc]); (try dsimp only); omega)).trans ex0_0_13)
  have ex0_1_14 : w14.cell? ⟨w4.heap.size, 1, none⟩ = some (.slice A4_1 (List.length x0.2) c4_1) := (hb14.cell (by (try simp only [World.size_alloc]); (try dsimp only); omega)).trans ((World.cell?_alloc_lt _ _ _ (by (try simp only [World.size_alloc]); (try dsimp only); omega)).trans ex0_1_13)
  have zg0_14 : w5.heap.size < w14.heap.size := by omega
  have eg0_0_14 : w14.cell? ⟨w5.heap.size, 0, none⟩ = some (.int .i64 (f_EvictStale x0 a1).1) := (hb14.cell (by (try simp only [World.size_alloc]); (try dsimp only); omega)).trans ((World.cell?_alloc_lt _ _ _ (by (try simp only [World.size_alloc]); (try dsimp only); omega)).trans eg0_0_13)
  have eg0_1_14 : w14.cell? ⟨w5.heap.size, 1, none⟩ = some (.slice A5_1 (List.length (f_EvictStale x0 a1).2) c5_1) := (hb14.cell (by (try simp only [World.size_alloc]); (try dsimp only); omega)).trans ((World.cell?_alloc_lt _ _ _ (by (try simp only [World.size_alloc]); (try dsimp only); omega)).trans eg0_1_13)
  have zh0_14 : w13.heap.size < w14.heap.size := by omega
  have eh0_0_14 : w14.cell? ⟨w13.heap.size, 0, none⟩ = some (.int .i64 (f_EvictStale x0 a1).1) := (hb14.cell (by (try simp only [World.size_alloc]); (try dsimp only); omega)).trans ((cell_new w13 24 #[.int .i64 (f_EvictStale x0 a1).1, .slice A13_1 (List.length (f_EvictStale x0 a1).2) c13_1] 0 (by first | rfl | (simp only [World.size_alloc]))) : _ = some (Value.int .i64 (f_EvictStale x0 a1).1))
  have eh0_1_14 : w14.cell? ⟨w13.heap.size, 1, none⟩ = some (.slice A13_1 (List.length (f_EvictStale x0 a1).2) c13_1) := (hb14.cell (by (try simp only [World.size_alloc]); (try dsimp only); omega)).trans ((cell_new w13 24 #[.int .i64 (f_EvictStale x0 a1).1, .slice A13_1 (List.length (f_EvictStale x0 a1).2) c13_1] 1 (by first | rfl | (simp only [World.size_alloc]))) : _ = some (Value.slice A13_1 (List.length (f_EvictStale x0 a1).2) c13_1))
  clear ea0_0_13 ea0_1_13 ew0_0_13 ew0_1_13 ex0_0_13 ex0_1_13 eg0_0_13 eg0_1_13
  go_wp2_with fail
  refine (C_laws_heldContentStore _ _ (f_EvictStale x0 a1) 1 (Ty.ow_rd (Ty.ow_bel (by repeat' (first | (with_reducible exact Below.refl _ _) | (with_reducible assumption) | (with_reducible refine bel_set ?_ (by (try dsimp only); omega) _) | (with_reducible refine bel_alloc ?_ _) | (with_reducible refine bel_drewN ?_ _) | (with_reducible refine bel_drew ?_))) hm10)) (by omega) (by omega)).mono ?_
  rintro e w15 ⟨rfl, hb15⟩
  have st15 : Below w14.heap.size w14 w15 := bel_trans (by repeat' (first | (with_reducible exact Below.refl _ _) | (with_reducible assumption) | (with_reducible refine bel_set ?_ (by (try dsimp only); omega) _) | (with_reducible refine bel_alloc ?_ _) | (with_reducible refine bel_drewN ?_ _) | (with_reducible refine bel_drew ?_))) hb15
  have zz15 : w14.heap.size + 0 ≤ w15.heap.size := by have := hb15.size; (try simp only [World.size_alloc] at this); omega
  have vw_15 : Below w.heap.size w w15 := bel_trans vw_14 st15
  have vW0_15 : Below w10.heap.size w10 w15 := bel_trans vW0_14 st15
  have vM0_15 : Below w10.heap.size w10 w15 := bel_trans vM0_14 st15
  have vH0_15 : Below w13.heap.size w13 w15 := bel_trans vH0_14 st15
  have za0_15 : w.heap.size < w15.heap.size := by omega
  have ea0_0_15 : w15.cell? ⟨w.heap.size, 0, none⟩ = some (.int .i64 x0.1) := (hb15.cell (by (try simp only [World.size_alloc]); (try dsimp only); omega)).trans ea0_0_14
  have ea0_1_15 : w15.cell? ⟨w.heap.size, 1, none⟩ = some (.slice A01 (List.length x0.2) c01) := (hb15.cell (by (try simp only [World.size_alloc]); (try dsimp only); omega)).trans ea0_1_14
  have zw0_15 : w3.heap.size < w15.heap.size := by omega
  have ew0_0_15 : w15.cell? ⟨w3.heap.size, 0, none⟩ = some (.int .i64 (f_EvictStale x0 a1).1) := (hb15.cell (by (try simp only [World.size_alloc]); (try dsimp only); omega)).trans ew0_0_14
  have ew0_1_15 : w15.cell? ⟨w3.heap.size, 1, none⟩ = some (.slice A3_1 (List.length (f_EvictStale x0 a1).2) c3_1) := (hb15.cell (by (try simp only [World.size_alloc]); (try dsimp only); omega)).trans ew0_1_14
  have zx0_15 : w4.heap.size < w15.heap.size := by omega
  have ex0_0_15 : w15.cell? ⟨w4.heap.size, 0, none⟩ = some (.int .i64 x0.1) := (hb15.cell (by (try simp only [World.size_alloc]); (try dsimp only); omega)).trans ex0_0_14
  have ex0_1_15 : w15.cell? ⟨w4.heap.size, 1, none⟩ = some (.slice A4_1 (List.length x0.2) c4_1) := (hb15.cell (by (try simp only [World.size_alloc]); (try dsimp only); omega)).trans ex0_1_14
  have zg0_15 : w5.heap.size < w15.heap.size := by omega
  have eg0_0_15 : w15.cell? ⟨w5.heap.size, 0, none⟩ = some (.int .i64 (f_EvictStale x0 a1).1) := (hb15.cell (by (try simp only [World.size_alloc]); (try dsimp only); omega)).trans eg0_0_14
  have eg0_1_15 : w15.cell? ⟨w5.heap.size, 1, none⟩ = some (.slice A5_1 (List.length (f_EvictStale x0 a1).2) c5_1) := (hb15.cell (by (try simp only [World.size_alloc]); (try dsimp only); omega)).trans eg0_1_14
  have zh0_15 : w13.heap.size < w15.heap.size := by omega
  have eh0_0_15 : w15.cell? ⟨w13.heap.size, 0, none⟩ = some (.int .i64 (f_EvictStale x0 a1).1) := (hb15.cell (by (try simp only [World.size_alloc]); (try dsimp only); omega)).trans eh0_0_14
  have eh0_1_15 : w15.cell? ⟨w13.heap.size, 1, none⟩ = some (.slice A13_1 (List.length (f_EvictStale x0 a1).2) c13_1) := (hb15.cell (by (try simp only [World.size_alloc]); (try dsimp only); omega)).trans eh0_1_14
  clear ea0_0_14 ea0_1_14 ew0_0_14 ew0_1_14 ex0_0_14 ex0_1_14 eg0_0_14 eg0_1_14 eh0_0_14 eh0_1_14
  go_wp2_with fail
  go_ret
  exact ⟨rfl, vw_15⟩
end Go.Proofs.Ytemicfeiejfdkaa
