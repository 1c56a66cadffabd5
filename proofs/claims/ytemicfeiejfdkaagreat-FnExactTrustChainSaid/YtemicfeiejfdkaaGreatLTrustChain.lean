/- The law FnExactTrustChain, walked out of the contracts. Printed by a program. -/
import Derived.Test.YtemicfeiejfdkaaGreatTcn
import Derived.Deep.RegionHeld3
namespace Go.Proofs.YtemicfeiejfdkaaGreat
open Go.RowKit
set_option linter.unusedVariables false
set_option linter.unusedSimpArgs false

set_option maxRecDepth 100000 in
set_option maxHeartbeats 4000000 in
theorem L_TrustChain (w : World) (cs0 : List Value) (x0 : Ty.D tTrustPolicy) (h0 : Ty.rd w tTrustPolicy cs0 x0) (cs1 : List Value) (x1 : Ty.D tData) (h1 : Ty.rd w tData cs1 x1) (a2 : Int) (i2 : -9223372036854775808 ≤ a2 ∧ a2 ≤ 9223372036854775807) :
    Calls Tryz.prog 3 #[.agg cs0.toArray, .agg cs1.toArray, .int .i64 a2] w (RetB w true) := by
  obtain ⟨A00, c00, A01, c01, A02, c02, A03, c03, rfl, _, _, _, _⟩ := rd_TrustPolicy h0
  obtain ⟨A10, c10, A11, c11, A12, c12, rfl, _, _, _, _, _⟩ := rd_Data h1
  go_enter Tryz.func3, Tryz.ntmps3
  go_wp2_with fail
  refine (C_laws_szTrustPolicy _ _ x0 1048576 (Ty.rd_below (by repeat' (first | (with_reducible exact Below.refl _ _) | (with_reducible assumption) | (with_reducible refine bel_set ?_ (by (try dsimp only); omega) _) | (with_reducible refine bel_alloc ?_ _) | (with_reducible refine bel_drewN ?_ _) | (with_reducible refine bel_drew ?_))) h0) (by omega) (by omega)).mono ?_
  rintro e w1 ⟨r1, rfl, hr1, hb1⟩
  have st1 : Below w.heap.size w w1 := bel_trans (by repeat' (first | (with_reducible exact Below.refl _ _) | (with_reducible assumption) | (with_reducible refine bel_set ?_ (by (try dsimp only); omega) _) | (with_reducible refine bel_alloc ?_ _) | (with_reducible refine bel_drewN ?_ _) | (with_reducible refine bel_drew ?_))) hb1
  have zz1 : w.heap.size + 2 ≤ w1.heap.size := by have := hb1.size; (try simp only [World.size_alloc] at this); omega
  have vw_1 : Below w.heap.size w w1 := st1
  have za0_1 : w.heap.size < w1.heap.size := by omega
  have ea0_0_1 : w1.cell? ⟨w.heap.size, 0, none⟩ = some (.slice A00 (List.length x0.1) c00) := (hb1.cell (by (try simp only [World.size_alloc]); (try dsimp only); omega)).trans ((World.cell?_alloc_lt _ _ _ (by (try simp only [World.size_alloc]); (try dsimp only); omega)).trans ((cell_new w 27 #[.slice A00 (List.length x0.1) c00, .slice A01 (List.length x0.2.1) c01, .slice A02 (List.length x0.2.2.1) c02, .slice A03 (List.length x0.2.2.2) c03] 0 (by first | rfl | (simp only [World.size_alloc]))) : _ = some (Value.slice A00 (List.length x0.1) c00)))
  have ea0_1_1 : w1.cell? ⟨w.heap.size, 1, none⟩ = some (.slice A01 (List.length x0.2.1) c01) := (hb1.cell (by (try simp only [World.size_alloc]); (try dsimp only); omega)).trans ((World.cell?_alloc_lt _ _ _ (by (try simp only [World.size_alloc]); (try dsimp only); omega)).trans ((cell_new w 27 #[.slice A00 (List.length x0.1) c00, .slice A01 (List.length x0.2.1) c01, .slice A02 (List.length x0.2.2.1) c02, .slice A03 (List.length x0.2.2.2) c03] 1 (by first | rfl | (simp only [World.size_alloc]))) : _ = some (Value.slice A01 (List.length x0.2.1) c01)))
  have ea0_2_1 : w1.cell? ⟨w.heap.size, 2, none⟩ = some (.slice A02 (List.length x0.2.2.1) c02) := (hb1.cell (by (try simp only [World.size_alloc]); (try dsimp only); omega)).trans ((World.cell?_alloc_lt _ _ _ (by (try simp only [World.size_alloc]); (try dsimp only); omega)).trans ((cell_new w 27 #[.slice A00 (List.length x0.1) c00, .slice A01 (List.length x0.2.1) c01, .slice A02 (List.length x0.2.2.1) c02, .slice A03 (List.length x0.2.2.2) c03] 2 (by first | rfl | (simp only [World.size_alloc]))) : _ = some (Value.slice A02 (List.length x0.2.2.1) c02)))
  have ea0_3_1 : w1.cell? ⟨w.heap.size, 3, none⟩ = some (.slice A03 (List.length x0.2.2.2) c03) := (hb1.cell (by (try simp only [World.size_alloc]); (try dsimp only); omega)).trans ((World.cell?_alloc_lt _ _ _ (by (try simp only [World.size_alloc]); (try dsimp only); omega)).trans ((cell_new w 27 #[.slice A00 (List.length x0.1) c00, .slice A01 (List.length x0.2.1) c01, .slice A02 (List.length x0.2.2.1) c02, .slice A03 (List.length x0.2.2.2) c03] 3 (by first | rfl | (simp only [World.size_alloc]))) : _ = some (Value.slice A03 (List.length x0.2.2.2) c03)))
  have za1_1 : w.heap.size + 1 < w1.heap.size := by omega
  have ea1_0_1 : w1.cell? ⟨w.heap.size + 1, 0, none⟩ = some (.slice A10 (List.length x1.1) c10) := (hb1.cell (by (try simp only [World.size_alloc]); (try dsimp only); omega)).trans ((cell_new (w.alloc (.cells #[.slice A00 (List.length x0.1) c00, .slice A01 (List.length x0.2.1) c01, .slice A02 (List.length x0.2.2.1) c02, .slice A03 (List.length x0.2.2.2) c03] 27)) 33 #[.slice A10 (List.length x1.1) c10, .slice A11 (List.length x1.2.1) c11, .slice A12 (List.length x1.2.2.1) c12, .int .i64 x1.2.2.2.1, .int .i64 x1.2.2.2.2] 0 (by first | rfl | (simp only [World.size_alloc]))) : _ = some (Value.slice A10 (List.length x1.1) c10))
  have ea1_1_1 : w1.cell? ⟨w.heap.size + 1, 1, none⟩ = some (.slice A11 (List.length x1.2.1) c11) := (hb1.cell (by (try simp only [World.size_alloc]); (try dsimp only); omega)).trans ((cell_new (w.alloc (.cells #[.slice A00 (List.length x0.1) c00, .slice A01 (List.length x0.2.1) c01, .slice A02 (List.length x0.2.2.1) c02, .slice A03 (List.length x0.2.2.2) c03] 27)) 33 #[.slice A10 (List.length x1.1) c10, .slice A11 (List.length x1.2.1) c11, .slice A12 (List.length x1.2.2.1) c12, .int .i64 x1.2.2.2.1, .int .i64 x1.2.2.2.2] 1 (by first | rfl | (simp only [World.size_alloc]))) : _ = some (Value.slice A11 (List.length x1.2.1) c11))
  have ea1_2_1 : w1.cell? ⟨w.heap.size + 1, 2, none⟩ = some (.slice A12 (List.length x1.2.2.1) c12) := (hb1.cell (by (try simp only [World.size_alloc]); (try dsimp only); omega)).trans ((cell_new (w.alloc (.cells #[.slice A00 (List.length x0.1) c00, .slice A01 (List.length x0.2.1) c01, .slice A02 (List.length x0.2.2.1) c02, .slice A03 (List.length x0.2.2.2) c03] 27)) 33 #[.slice A10 (List.length x1.1) c10, .slice A11 (List.length x1.2.1) c11, .slice A12 (List.length x1.2.2.1) c12, .int .i64 x1.2.2.2.1, .int .i64 x1.2.2.2.2] 2 (by first | rfl | (simp only [World.size_alloc]))) : _ = some (Value.slice A12 (List.length x1.2.2.1) c12))
  have ea1_3_1 : w1.cell? ⟨w.heap.size + 1, 3, none⟩ = some (.int .i64 x1.2.2.2.1) := (hb1.cell (by (try simp only [World.size_alloc]); (try dsimp only); omega)).trans ((cell_new (w.alloc (.cells #[.slice A00 (List.length x0.1) c00, .slice A01 (List.length x0.2.1) c01, .slice A02 (List.length x0.2.2.1) c02, .slice A03 (List.length x0.2.2.2) c03] 27)) 33 #[.slice A10 (List.length x1.1) c10, .slice A11 (List.length x1.2.1) c11, .slice A12 (List.length x1.2.2.1) c12, .int .i64 x1.2.2.2.1, .int .i64 x1.2.2.2.2] 3 (by first | rfl | (simp only [World.size_alloc]))) : _ = some (Value.int .i64 x1.2.2.2.1))
  have ea1_4_1 : w1.cell? ⟨w.heap.size + 1, 4, none⟩ = some (.int .i64 x1.2.2.2.2) := (hb1.cell (by (try simp only [World.size_alloc]); (try dsimp only); omega)).trans ((cell_new (w.alloc (.cells #[.slice A00 (List.length x0.1) c00, .slice A01 (List.length x0.2.1) c01, .slice A02 (List.length x0.2.2.1) c02, .slice A03 (List.length x0.2.2.2) c03] 27)) 33 #[.slice A10 (List.length x1.1) c10, .slice A11 (List.length x1.2.1) c11, .slice A12 (List.length x1.2.2.1) c12, .int .i64 x1.2.2.2.1, .int .i64 x1.2.2.2.2] 4 (by first | rfl | (simp only [World.size_alloc]))) : _ = some (Value.int .i64 x1.2.2.2.2))
  rcases hr1 with rfl | ⟨p1, q1⟩
  · go_wp2
    go_ret
    exact ⟨rfl, vw_1⟩
  go_wp2_with fail
  refine (C_laws_szData _ _ x1 r1 (Ty.rd_below (by repeat' (first | (with_reducible exact Below.refl _ _) | (with_reducible assumption) | (with_reducible refine bel_set ?_ (by (try dsimp only); omega) _) | (with_reducible refine bel_alloc ?_ _) | (with_reducible refine bel_drewN ?_ _) | (with_reducible refine bel_drew ?_))) h1) p1 (by omega)).mono ?_
  rintro e w2 ⟨r2, rfl, hr2, hb2⟩
  have st2 : Below w1.heap.size w1 w2 := bel_trans (by repeat' (first | (with_reducible exact Below.refl _ _) | (with_reducible assumption) | (with_reducible refine bel_set ?_ (by (try dsimp only); omega) _) | (with_reducible refine bel_alloc ?_ _) | (with_reducible refine bel_drewN ?_ _) | (with_reducible refine bel_drew ?_))) hb2
  have zz2 : w1.heap.size + 0 ≤ w2.heap.size := by have := hb2.size; (try simp only [World.size_alloc] at this); omega
  have vw_2 : Below w.heap.size w w2 := bel_trans vw_1 st2
  have za0_2 : w.heap.size < w2.heap.size := by omega
  have ea0_0_2 : w2.cell? ⟨w.heap.size, 0, none⟩ = some (.slice A00 (List.length x0.1) c00) := (hb2.cell (by (try simp only [World.size_alloc]); (try dsimp only); omega)).trans ea0_0_1
  have ea0_1_2 : w2.cell? ⟨w.heap.size, 1, none⟩ = some (.slice A01 (List.length x0.2.1) c01) := (hb2.cell (by (try simp only [World.size_alloc]); (try dsimp only); omega)).trans ea0_1_1
  have ea0_2_2 : w2.cell? ⟨w.heap.size, 2, none⟩ = some (.slice A02 (List.length x0.2.2.1) c02) := (hb2.cell (by (try simp only [World.size_alloc]); (try dsimp only); omega)).trans ea0_2_1
  have ea0_3_2 : w2.cell? ⟨w.heap.size, 3, none⟩ = some (.slice A03 (List.length x0.2.2.2) c03) := (hb2.cell (by (try simp only [World.size_alloc]); (try dsimp only); omega)).trans ea0_3_1
  have za1_2 : w.heap.size + 1 < w2.heap.size := by omega
  have ea1_0_2 : w2.cell? ⟨w.heap.size + 1, 0, none⟩ = some (.slice A10 (List.length x1.1) c10) := (hb2.cell (by (try simp only [World.size_alloc]); (try dsimp only); omega)).trans ea1_0_1
  have ea1_1_2 : w2.cell? ⟨w.heap.size + 1, 1, none⟩ = some (.slice A11 (List.length x1.2.1) c11) := (hb2.cell (by (try simp only [World.size_alloc]); (try dsimp only); omega)).trans ea1_1_1
  have ea1_2_2 : w2.cell? ⟨w.heap.size + 1, 2, none⟩ = some (.slice A12 (List.length x1.2.2.1) c12) := (hb2.cell (by (try simp only [World.size_alloc]); (try dsimp only); omega)).trans ea1_2_1
  have ea1_3_2 : w2.cell? ⟨w.heap.size + 1, 3, none⟩ = some (.int .i64 x1.2.2.2.1) := (hb2.cell (by (try simp only [World.size_alloc]); (try dsimp only); omega)).trans ea1_3_1
  have ea1_4_2 : w2.cell? ⟨w.heap.size + 1, 4, none⟩ = some (.int .i64 x1.2.2.2.2) := (hb2.cell (by (try simp only [World.size_alloc]); (try dsimp only); omega)).trans ea1_4_1
  clear ea0_0_1 ea0_1_1 ea0_2_1 ea0_3_1 ea1_0_1 ea1_1_1 ea1_2_1 ea1_3_1 ea1_4_1
  rcases hr2 with rfl | ⟨p2, q2⟩
  · go_wp2
    go_ret
    exact ⟨rfl, vw_2⟩
  have s0 : Ty.bulk tTrustPolicy x0 ≤ 1048576 := by omega
  have s1 : Ty.bulk tData x1 ≤ 1048576 := by omega
  have HSp : Hid (∀ W, Below w2.heap.size w2 W → Below w2.heap.size w2 W ∧ W.cell? ⟨w.heap.size, 0, none⟩ = some (.slice A00 (List.length x0.1) c00) ∧ W.cell? ⟨w.heap.size, 1, none⟩ = some (.slice A01 (List.length x0.2.1) c01) ∧ W.cell? ⟨w.heap.size, 2, none⟩ = some (.slice A02 (List.length x0.2.2.1) c02) ∧ W.cell? ⟨w.heap.size, 3, none⟩ = some (.slice A03 (List.length x0.2.2.2) c03) ∧ W.cell? ⟨w.heap.size + 1, 0, none⟩ = some (.slice A10 (List.length x1.1) c10) ∧ W.cell? ⟨w.heap.size + 1, 1, none⟩ = some (.slice A11 (List.length x1.2.1) c11) ∧ W.cell? ⟨w.heap.size + 1, 2, none⟩ = some (.slice A12 (List.length x1.2.2.1) c12) ∧ W.cell? ⟨w.heap.size + 1, 3, none⟩ = some (.int .i64 x1.2.2.2.1) ∧ W.cell? ⟨w.heap.size + 1, 4, none⟩ = some (.int .i64 x1.2.2.2.2)) := fun W hW => ⟨hW, (hW.cell za0_2).trans ea0_0_2, (hW.cell za0_2).trans ea0_1_2, (hW.cell za0_2).trans ea0_2_2, (hW.cell za0_2).trans ea0_3_2, (hW.cell za1_2).trans ea1_0_2, (hW.cell za1_2).trans ea1_1_2, (hW.cell za1_2).trans ea1_2_2, (hW.cell za1_2).trans ea1_3_2, (hW.cell za1_2).trans ea1_4_2⟩
  have hvp : Below w2.heap.size w2 w2 := Below.refl _ _
  go_wp2_with fail
  go_region_held3 (fun W => Below w2.heap.size w2 W ∧ W.cell? ⟨w.heap.size, 0, none⟩ = some (.slice A00 (List.length x0.1) c00) ∧ W.cell? ⟨w.heap.size, 1, none⟩ = some (.slice A01 (List.length x0.2.1) c01) ∧ W.cell? ⟨w.heap.size, 2, none⟩ = some (.slice A02 (List.length x0.2.2.1) c02) ∧ W.cell? ⟨w.heap.size, 3, none⟩ = some (.slice A03 (List.length x0.2.2.2) c03) ∧ W.cell? ⟨w.heap.size + 1, 0, none⟩ = some (.slice A10 (List.length x1.1) c10) ∧ W.cell? ⟨w.heap.size + 1, 1, none⟩ = some (.slice A11 (List.length x1.2.1) c11) ∧ W.cell? ⟨w.heap.size + 1, 2, none⟩ = some (.slice A12 (List.length x1.2.2.1) c12) ∧ W.cell? ⟨w.heap.size + 1, 3, none⟩ = some (.int .i64 x1.2.2.2.1) ∧ W.cell? ⟨w.heap.size + 1, 4, none⟩ = some (.int .i64 x1.2.2.2.2)) (exact HSp.out _ (by repeat' (first | (with_reducible exact Below.refl _ _) | (with_reducible assumption) | (with_reducible refine bel_set ?_ (by (try dsimp only); omega) _) | (with_reducible refine bel_alloc ?_ _) | (with_reducible refine bel_drewN ?_ _) | (with_reducible refine bel_drew ?_))))
    (first
      | (go_at_call 7; (with_reducible refine (C_laws_toTrustPolicy _ _ x0 (Ty.rd_below (by repeat' (first | (with_reducible exact Below.refl _ _) | (with_reducible assumption) | (with_reducible refine bel_set ?_ (by (try dsimp only); omega) _) | (with_reducible refine bel_alloc ?_ _) | (with_reducible refine bel_drewN ?_ _) | (with_reducible refine bel_drew ?_))) h0) s0).mono ?_); rintro e wp0 ⟨csp0, fpp0, rfl, howp0, hfrp0, hbp0⟩; have hvp0 : Below w2.heap.size w2 wp0 := bel_trans (by repeat' (first | (with_reducible exact Below.refl _ _) | (with_reducible assumption) | (with_reducible refine bel_set ?_ (by (try dsimp only); omega) _) | (with_reducible refine bel_alloc ?_ _) | (with_reducible refine bel_drewN ?_ _) | (with_reducible refine bel_drew ?_))) hbp0; have vwp0 : Below w.heap.size w wp0 := bel_trans (by repeat' (first | (with_reducible exact Below.refl _ _) | (with_reducible assumption) | (with_reducible refine bel_set ?_ (by (try dsimp only); omega) _) | (with_reducible refine bel_alloc ?_ _) | (with_reducible refine bel_drewN ?_ _) | (with_reducible refine bel_drew ?_))) hbp0)
      | (go_at_call 8; (with_reducible refine (C_laws_toData _ _ x1 (Ty.rd_below (by repeat' (first | (with_reducible exact Below.refl _ _) | (with_reducible assumption) | (with_reducible refine bel_set ?_ (by (try dsimp only); omega) _) | (with_reducible refine bel_alloc ?_ _) | (with_reducible refine bel_drewN ?_ _) | (with_reducible refine bel_drew ?_))) h1) s1).mono ?_); rintro e wp1 ⟨csp1, fpp1, rfl, howp1, hfrp1, hbp1⟩; have hvp1 : Below w2.heap.size w2 wp1 := bel_trans (by repeat' (first | (with_reducible exact Below.refl _ _) | (with_reducible assumption) | (with_reducible refine bel_set ?_ (by (try dsimp only); omega) _) | (with_reducible refine bel_alloc ?_ _) | (with_reducible refine bel_drewN ?_ _) | (with_reducible refine bel_drew ?_))) hbp1; have vwp1 : Below w.heap.size w wp1 := bel_trans (by repeat' (first | (with_reducible exact Below.refl _ _) | (with_reducible assumption) | (with_reducible refine bel_set ?_ (by (try dsimp only); omega) _) | (with_reducible refine bel_alloc ?_ _) | (with_reducible refine bel_drewN ?_ _) | (with_reducible refine bel_drew ?_))) hbp1; have yp0_p1 : Below wp0.heap.size wp0 wp1 := bel_trans (by repeat' (first | (with_reducible exact Below.refl _ _) | (with_reducible assumption) | (with_reducible refine bel_set ?_ (by (try dsimp only); omega) _) | (with_reducible refine bel_alloc ?_ _) | (with_reducible refine bel_drewN ?_ _) | (with_reducible refine bel_drew ?_))) hbp1)
      | (go_at_call 6; (with_reducible refine (C_spec_TrustChain _ _ x0 _ x1 a2 (Ty.rd_below (by repeat' (first | (with_reducible exact Below.refl _ _) | (with_reducible assumption) | (with_reducible refine bel_set ?_ (by (try dsimp only); omega) _) | (with_reducible refine bel_alloc ?_ _) | (with_reducible refine bel_drewN ?_ _) | (with_reducible refine bel_drew ?_))) (Ty.ow_rd howp0)) (Ty.rd_below (by repeat' (first | (with_reducible exact Below.refl _ _) | (with_reducible assumption) | (with_reducible refine bel_set ?_ (by (try dsimp only); omega) _) | (with_reducible refine bel_alloc ?_ _) | (with_reducible refine bel_drewN ?_ _) | (with_reducible refine bel_drew ?_))) (Ty.ow_rd howp1)) s0 s1 i2).mono ?_); rintro e w3 ⟨A3_, c3_, fp3, rfl, how3, hfr3, hb3⟩; have hvpz : Below w2.heap.size w2 w3 := bel_trans (by repeat' (first | (with_reducible exact Below.refl _ _) | (with_reducible assumption) | (with_reducible refine bel_set ?_ (by (try dsimp only); omega) _) | (with_reducible refine bel_alloc ?_ _) | (with_reducible refine bel_drewN ?_ _) | (with_reducible refine bel_drew ?_))) hb3))
  have st3 : Below w2.heap.size w2 w3 := hvpz
  have zz3 : w2.heap.size ≤ w3.heap.size := st3.size
  have vw_3 : Below w.heap.size w w3 := bel_trans vw_2 st3
  have za0_3 : w.heap.size < w3.heap.size := by omega
  have ea0_0_3 : w3.cell? ⟨w.heap.size, 0, none⟩ = some (.slice A00 (List.length x0.1) c00) := (st3.cell za0_2).trans ea0_0_2
  have ea0_1_3 : w3.cell? ⟨w.heap.size, 1, none⟩ = some (.slice A01 (List.length x0.2.1) c01) := (st3.cell za0_2).trans ea0_1_2
  have ea0_2_3 : w3.cell? ⟨w.heap.size, 2, none⟩ = some (.slice A02 (List.length x0.2.2.1) c02) := (st3.cell za0_2).trans ea0_2_2
  have ea0_3_3 : w3.cell? ⟨w.heap.size, 3, none⟩ = some (.slice A03 (List.length x0.2.2.2) c03) := (st3.cell za0_2).trans ea0_3_2
  have za1_3 : w.heap.size + 1 < w3.heap.size := by omega
  have ea1_0_3 : w3.cell? ⟨w.heap.size + 1, 0, none⟩ = some (.slice A10 (List.length x1.1) c10) := (st3.cell za1_2).trans ea1_0_2
  have ea1_1_3 : w3.cell? ⟨w.heap.size + 1, 1, none⟩ = some (.slice A11 (List.length x1.2.1) c11) := (st3.cell za1_2).trans ea1_1_2
  have ea1_2_3 : w3.cell? ⟨w.heap.size + 1, 2, none⟩ = some (.slice A12 (List.length x1.2.2.1) c12) := (st3.cell za1_2).trans ea1_2_2
  have ea1_3_3 : w3.cell? ⟨w.heap.size + 1, 3, none⟩ = some (.int .i64 x1.2.2.2.1) := (st3.cell za1_2).trans ea1_3_2
  have ea1_4_3 : w3.cell? ⟨w.heap.size + 1, 4, none⟩ = some (.int .i64 x1.2.2.2.2) := (st3.cell za1_2).trans ea1_4_2
  clear ea0_0_2 ea0_1_2 ea0_2_2 ea0_3_2 ea1_0_2 ea1_1_2 ea1_2_2 ea1_3_2 ea1_4_2
  have hfr3 := hfr3.mono (Nat.le_trans hvp1.size (Nat.le_refl _)) (Nat.le_refl _)
  have frW0 : FrI (w2.heap.size + 0) w3.heap.size fp3 := hfr3.mono (by (try simp only [World.size_alloc]); omega) (Nat.le_refl _)
  have vW0_3 : Below w3.heap.size w3 w3 := Below.refl _ _
  go_wp2_with fail
  refine (C_laws_toTrustPolicy _ _ x0 (Ty.rd_below (by repeat' (first | (with_reducible exact Below.refl _ _) | (with_reducible assumption) | (with_reducible refine bel_set ?_ (by (try dsimp only); omega) _) | (with_reducible refine bel_alloc ?_ _) | (with_reducible refine bel_drewN ?_ _) | (with_reducible refine bel_drew ?_))) h0) s0).mono ?_
  rintro e w4 ⟨cs4_, fp4, rfl, how4, hfr4, hb4⟩
  obtain ⟨A4_0, c4_0, A4_1, c4_1, A4_2, c4_2, A4_3, c4_3, rfl⟩ := ow_TrustPolicy how4
  have st4 : Below w3.heap.size w3 w4 := bel_trans (by repeat' (first | (with_reducible exact Below.refl _ _) | (with_reducible assumption) | (with_reducible refine bel_set ?_ (by (try dsimp only); omega) _) | (with_reducible refine bel_alloc ?_ _) | (with_reducible refine bel_drewN ?_ _) | (with_reducible refine bel_drew ?_))) hb4
  have zz4 : w3.heap.size + 0 ≤ w4.heap.size := by have := hb4.size; (try simp only [World.size_alloc] at this); omega
  have vw_4 : Below w.heap.size w w4 := bel_trans vw_3 st4
  have vW0_4 : Below w3.heap.size w3 w4 := st4
  have za0_4 : w.heap.size < w4.heap.size := by omega
  have ea0_0_4 : w4.cell? ⟨w.heap.size, 0, none⟩ = some (.slice A00 (List.length x0.1) c00) := (hb4.cell (by (try simp only [World.size_alloc]); (try dsimp only); omega)).trans ea0_0_3
  have ea0_1_4 : w4.cell? ⟨w.heap.size, 1, none⟩ = some (.slice A01 (List.length x0.2.1) c01) := (hb4.cell (by (try simp only [World.size_alloc]); (try dsimp only); omega)).trans ea0_1_3
  have ea0_2_4 : w4.cell? ⟨w.heap.size, 2, none⟩ = some (.slice A02 (List.length x0.2.2.1) c02) := (hb4.cell (by (try simp only [World.size_alloc]); (try dsimp only); omega)).trans ea0_2_3
  have ea0_3_4 : w4.cell? ⟨w.heap.size, 3, none⟩ = some (.slice A03 (List.length x0.2.2.2) c03) := (hb4.cell (by (try simp only [World.size_alloc]); (try dsimp only); omega)).trans ea0_3_3
  have za1_4 : w.heap.size + 1 < w4.heap.size := by omega
  have ea1_0_4 : w4.cell? ⟨w.heap.size + 1, 0, none⟩ = some (.slice A10 (List.length x1.1) c10) := (hb4.cell (by (try simp only [World.size_alloc]); (try dsimp only); omega)).trans ea1_0_3
  have ea1_1_4 : w4.cell? ⟨w.heap.size + 1, 1, none⟩ = some (.slice A11 (List.length x1.2.1) c11) := (hb4.cell (by (try simp only [World.size_alloc]); (try dsimp only); omega)).trans ea1_1_3
  have ea1_2_4 : w4.cell? ⟨w.heap.size + 1, 2, none⟩ = some (.slice A12 (List.length x1.2.2.1) c12) := (hb4.cell (by (try simp only [World.size_alloc]); (try dsimp only); omega)).trans ea1_2_3
  have ea1_3_4 : w4.cell? ⟨w.heap.size + 1, 3, none⟩ = some (.int .i64 x1.2.2.2.1) := (hb4.cell (by (try simp only [World.size_alloc]); (try dsimp only); omega)).trans ea1_3_3
  have ea1_4_4 : w4.cell? ⟨w.heap.size + 1, 4, none⟩ = some (.int .i64 x1.2.2.2.2) := (hb4.cell (by (try simp only [World.size_alloc]); (try dsimp only); omega)).trans ea1_4_3
  clear ea0_0_3 ea0_1_3 ea0_2_3 ea0_3_3 ea1_0_3 ea1_1_3 ea1_2_3 ea1_3_3 ea1_4_3
  have frX0 : FrI (w3.heap.size + 0) w4.heap.size fp4 := hfr4.mono (by (try simp only [World.size_alloc]); omega) (Nat.le_refl _)
  have vX0_4 : Below w4.heap.size w4 w4 := Below.refl _ _
  go_wp2_with fail
  refine (C_laws_toData _ _ x1 (Ty.rd_below (by repeat' (first | (with_reducible exact Below.refl _ _) | (with_reducible assumption) | (with_reducible refine bel_set ?_ (by (try dsimp only); omega) _) | (with_reducible refine bel_alloc ?_ _) | (with_reducible refine bel_drewN ?_ _) | (with_reducible refine bel_drew ?_))) h1) s1).mono ?_
  rintro e w5 ⟨cs5_, fp5, rfl, how5, hfr5, hb5⟩
  obtain ⟨A5_0, c5_0, A5_1, c5_1, A5_2, c5_2, rfl⟩ := ow_Data how5
  have st5 : Below w4.heap.size w4 w5 := bel_trans (by repeat' (first | (with_reducible exact Below.refl _ _) | (with_reducible assumption) | (with_reducible refine bel_set ?_ (by (try dsimp only); omega) _) | (with_reducible refine bel_alloc ?_ _) | (with_reducible refine bel_drewN ?_ _) | (with_reducible refine bel_drew ?_))) hb5
  have zz5 : w4.heap.size + 1 ≤ w5.heap.size := by have := hb5.size; (try simp only [World.size_alloc] at this); omega
  have vw_5 : Below w.heap.size w w5 := bel_trans vw_4 st5
  have vW0_5 : Below w3.heap.size w3 w5 := bel_trans vW0_4 st5
  have vX0_5 : Below w4.heap.size w4 w5 := st5
  have za0_5 : w.heap.size < w5.heap.size := by omega
  have ea0_0_5 : w5.cell? ⟨w.heap.size, 0, none⟩ = some (.slice A00 (List.length x0.1) c00) := (hb5.cell (by (try simp only [World.size_alloc]); (try dsimp only); omega)).trans ((World.cell?_alloc_lt _ _ _ (by (try simp only [World.size_alloc]); (try dsimp only); omega)).trans ea0_0_4)
  have ea0_1_5 : w5.cell? ⟨w.heap.size, 1, none⟩ = some (.slice A01 (List.length x0.2.1) c01) := (hb5.cell (by (try simp only [World.size_alloc]); (try dsimp only); omega)).trans ((World.cell?_alloc_lt _ _ _ (by (try simp only [World.size_alloc]); (try dsimp only); omega)).trans ea0_1_4)
  have ea0_2_5 : w5.cell? ⟨w.heap.size, 2, none⟩ = some (.slice A02 (List.length x0.2.2.1) c02) := (hb5.cell (by (try simp only [World.size_alloc]); (try dsimp only); omega)).trans ((World.cell?_alloc_lt _ _ _ (by (try simp only [World.size_alloc]); (try dsimp only); omega)).trans ea0_2_4)
  have ea0_3_5 : w5.cell? ⟨w.heap.size, 3, none⟩ = some (.slice A03 (List.length x0.2.2.2) c03) := (hb5.cell (by (try simp only [World.size_alloc]); (try dsimp only); omega)).trans ((World.cell?_alloc_lt _ _ _ (by (try simp only [World.size_alloc]); (try dsimp only); omega)).trans ea0_3_4)
  have za1_5 : w.heap.size + 1 < w5.heap.size := by omega
  have ea1_0_5 : w5.cell? ⟨w.heap.size + 1, 0, none⟩ = some (.slice A10 (List.length x1.1) c10) := (hb5.cell (by (try simp only [World.size_alloc]); (try dsimp only); omega)).trans ((World.cell?_alloc_lt _ _ _ (by (try simp only [World.size_alloc]); (try dsimp only); omega)).trans ea1_0_4)
  have ea1_1_5 : w5.cell? ⟨w.heap.size + 1, 1, none⟩ = some (.slice A11 (List.length x1.2.1) c11) := (hb5.cell (by (try simp only [World.size_alloc]); (try dsimp only); omega)).trans ((World.cell?_alloc_lt _ _ _ (by (try simp only [World.size_alloc]); (try dsimp only); omega)).trans ea1_1_4)
  have ea1_2_5 : w5.cell? ⟨w.heap.size + 1, 2, none⟩ = some (.slice A12 (List.length x1.2.2.1) c12) := (hb5.cell (by (try simp only [World.size_alloc]); (try dsimp only); omega)).trans ((World.cell?_alloc_lt _ _ _ (by (try simp only [World.size_alloc]); (try dsimp only); omega)).trans ea1_2_4)
  have ea1_3_5 : w5.cell? ⟨w.heap.size + 1, 3, none⟩ = some (.int .i64 x1.2.2.2.1) := (hb5.cell (by (try simp only [World.size_alloc]); (try dsimp only); omega)).trans ((World.cell?_alloc_lt _ _ _ (by (try simp only [World.size_alloc]); (try dsimp only); omega)).trans ea1_3_4)
  have ea1_4_5 : w5.cell? ⟨w.heap.size + 1, 4, none⟩ = some (.int .i64 x1.2.2.2.2) := (hb5.cell (by (try simp only [World.size_alloc]); (try dsimp only); omega)).trans ((World.cell?_alloc_lt _ _ _ (by (try simp only [World.size_alloc]); (try dsimp only); omega)).trans ea1_4_4)
  have zx0_5 : w4.heap.size < w5.heap.size := by omega
  have ex0_0_5 : w5.cell? ⟨w4.heap.size, 0, none⟩ = some (.slice A4_0 (List.length x0.1) c4_0) := (hb5.cell (by (try simp only [World.size_alloc]); (try dsimp only); omega)).trans ((cell_new w4 43 #[.slice A4_0 (List.length x0.1) c4_0, .slice A4_1 (List.length x0.2.1) c4_1, .slice A4_2 (List.length x0.2.2.1) c4_2, .slice A4_3 (List.length x0.2.2.2) c4_3] 0 (by first | rfl | (simp only [World.size_alloc]))) : _ = some (Value.slice A4_0 (List.length x0.1) c4_0))
  have ex0_1_5 : w5.cell? ⟨w4.heap.size, 1, none⟩ = some (.slice A4_1 (List.length x0.2.1) c4_1) := (hb5.cell (by (try simp only [World.size_alloc]); (try dsimp only); omega)).trans ((cell_new w4 43 #[.slice A4_0 (List.length x0.1) c4_0, .slice A4_1 (List.length x0.2.1) c4_1, .slice A4_2 (List.length x0.2.2.1) c4_2, .slice A4_3 (List.length x0.2.2.2) c4_3] 1 (by first | rfl | (simp only [World.size_alloc]))) : _ = some (Value.slice A4_1 (List.length x0.2.1) c4_1))
  have ex0_2_5 : w5.cell? ⟨w4.heap.size, 2, none⟩ = some (.slice A4_2 (List.length x0.2.2.1) c4_2) := (hb5.cell (by (try simp only [World.size_alloc]); (try dsimp only); omega)).trans ((cell_new w4 43 #[.slice A4_0 (List.length x0.1) c4_0, .slice A4_1 (List.length x0.2.1) c4_1, .slice A4_2 (List.length x0.2.2.1) c4_2, .slice A4_3 (List.length x0.2.2.2) c4_3] 2 (by first | rfl | (simp only [World.size_alloc]))) : _ = some (Value.slice A4_2 (List.length x0.2.2.1) c4_2))
  have ex0_3_5 : w5.cell? ⟨w4.heap.size, 3, none⟩ = some (.slice A4_3 (List.length x0.2.2.2) c4_3) := (hb5.cell (by (try simp only [World.size_alloc]); (try dsimp only); omega)).trans ((cell_new w4 43 #[.slice A4_0 (List.length x0.1) c4_0, .slice A4_1 (List.length x0.2.1) c4_1, .slice A4_2 (List.length x0.2.2.1) c4_2, .slice A4_3 (List.length x0.2.2.2) c4_3] 3 (by first | rfl | (simp only [World.size_alloc]))) : _ = some (Value.slice A4_3 (List.length x0.2.2.2) c4_3))
  clear ea0_0_4 ea0_1_4 ea0_2_4 ea0_3_4 ea1_0_4 ea1_1_4 ea1_2_4 ea1_3_4 ea1_4_4
  have frX1 : FrI (w4.heap.size + 1) w5.heap.size fp5 := hfr5.mono (by (try simp only [World.size_alloc]); omega) (Nat.le_refl _)
  have vX1_5 : Below w5.heap.size w5 w5 := Below.refl _ _
  go_wp2_with fail
  refine (C_impl_TrustChain _ _ x0 _ x1 a2 (Ty.ow_rd (Ty.ow_bel (by repeat' (first | (with_reducible exact Below.refl _ _) | (with_reducible assumption) | (with_reducible refine bel_set ?_ (by (try dsimp only); omega) _) | (with_reducible refine bel_alloc ?_ _) | (with_reducible refine bel_drewN ?_ _) | (with_reducible refine bel_drew ?_))) how4)) (Ty.ow_rd (Ty.ow_bel (by repeat' (first | (with_reducible exact Below.refl _ _) | (with_reducible assumption) | (with_reducible refine bel_set ?_ (by (try dsimp only); omega) _) | (with_reducible refine bel_alloc ?_ _) | (with_reducible refine bel_drewN ?_ _) | (with_reducible refine bel_drew ?_))) how5)) s0 s1 i2).mono ?_
  rintro e w6 ⟨A6_, c6_, fp6, rfl, how6, hfr6, hb6⟩
  have st6 : Below w5.heap.size w5 w6 := bel_trans (by repeat' (first | (with_reducible exact Below.refl _ _) | (with_reducible assumption) | (with_reducible refine bel_set ?_ (by (try dsimp only); omega) _) | (with_reducible refine bel_alloc ?_ _) | (with_reducible refine bel_drewN ?_ _) | (with_reducible refine bel_drew ?_))) hb6
  have zz6 : w5.heap.size + 1 ≤ w6.heap.size := by have := hb6.size; (try simp only [World.size_alloc] at this); omega
  have vw_6 : Below w.heap.size w w6 := bel_trans vw_5 st6
  have vW0_6 : Below w3.heap.size w3 w6 := bel_trans vW0_5 st6
  have vX0_6 : Below w4.heap.size w4 w6 := bel_trans vX0_5 st6
  have vX1_6 : Below w5.heap.size w5 w6 := st6
  have za0_6 : w.heap.size < w6.heap.size := by omega
  have ea0_0_6 : w6.cell? ⟨w.heap.size, 0, none⟩ = some (.slice A00 (List.length x0.1) c00) := (hb6.cell (by (try simp only [World.size_alloc]); (try dsimp only); omega)).trans ((World.cell?_alloc_lt _ _ _ (by (try simp only [World.size_alloc]); (try dsimp only); omega)).trans ea0_0_5)
  have ea0_1_6 : w6.cell? ⟨w.heap.size, 1, none⟩ = some (.slice A01 (List.length x0.2.1) c01) := (hb6.cell (by (try simp only [World.size_alloc]); (try dsimp only); omega)).trans ((World.cell?_alloc_lt _ _ _ (by (try simp only [World.size_alloc]); (try dsimp only); omega)).trans ea0_1_5)
  have ea0_2_6 : w6.cell? ⟨w.heap.size, 2, none⟩ = some (.slice A02 (List.length x0.2.2.1) c02) := (hb6.cell (by (try simp only [World.size_alloc]); (try dsimp only); omega)).trans ((World.cell?_alloc_lt _ _ _ (by (try simp only [World.size_alloc]); (try dsimp only); omega)).trans ea0_2_5)
  have ea0_3_6 : w6.cell? ⟨w.heap.size, 3, none⟩ = some (.slice A03 (List.length x0.2.2.2) c03) := (hb6.cell (by (try simp only [World.size_alloc]); (try dsimp only); omega)).trans ((World.cell?_alloc_lt _ _ _ (by (try simp only [World.size_alloc]); (try dsimp only); omega)).trans ea0_3_5)
  have za1_6 : w.heap.size + 1 < w6.heap.size := by omega
  have ea1_0_6 : w6.cell? ⟨w.heap.size + 1, 0, none⟩ = some (.slice A10 (List.length x1.1) c10) := (hb6.cell (by (try simp only [World.size_alloc]); (try dsimp only); omega)).trans ((World.cell?_alloc_lt _ _ _ (by (try simp only [World.size_alloc]); (try dsimp only); omega)).trans ea1_0_5)
  have ea1_1_6 : w6.cell? ⟨w.heap.size + 1, 1, none⟩ = some (.slice A11 (List.length x1.2.1) c11) := (hb6.cell (by (try simp only [World.size_alloc]); (try dsimp only); omega)).trans ((World.cell?_alloc_lt _ _ _ (by (try simp only [World.size_alloc]); (try dsimp only); omega)).trans ea1_1_5)
  have ea1_2_6 : w6.cell? ⟨w.heap.size + 1, 2, none⟩ = some (.slice A12 (List.length x1.2.2.1) c12) := (hb6.cell (by (try simp only [World.size_alloc]); (try dsimp only); omega)).trans ((World.cell?_alloc_lt _ _ _ (by (try simp only [World.size_alloc]); (try dsimp only); omega)).trans ea1_2_5)
  have ea1_3_6 : w6.cell? ⟨w.heap.size + 1, 3, none⟩ = some (.int .i64 x1.2.2.2.1) := (hb6.cell (by (try simp only [World.size_alloc]); (try dsimp only); omega)).trans ((World.cell?_alloc_lt _ _ _ (by (try simp only [World.size_alloc]); (try dsimp only); omega)).trans ea1_3_5)
  have ea1_4_6 : w6.cell? ⟨w.heap.size + 1, 4, none⟩ = some (.int .i64 x1.2.2.2.2) := (hb6.cell (by (try simp only [World.size_alloc]); (try dsimp only); omega)).trans ((World.cell?_alloc_lt _ _ _ (by (try simp only [World.size_alloc]); (try dsimp only); omega)).trans ea1_4_5)
  have zx0_6 : w4.heap.size < w6.heap.size := by omega
  have ex0_0_6 : w6.cell? ⟨w4.heap.size, 0, none⟩ = some (.slice A4_0 (List.length x0.1) c4_0) := (hb6.cell (by (try simp only [World.size_alloc]); (try dsimp only); omega)).trans ((World.cell?_alloc_lt _ _ _ (by (try simp only [World.size_alloc]); (try dsimp only); omega)).trans ex0_0_5)
  have ex0_1_6 : w6.cell? ⟨w4.heap.size, 1, none⟩ = some (.slice A4_1 (List.length x0.2.1) c4_1) := (hb6.cell (by (try simp only [World.size_alloc]); (try dsimp only); omega)).trans ((World.cell?_alloc_lt _ _ _ (by (try simp only [World.size_alloc]); (try dsimp only); omega)).trans ex0_1_5)
  have ex0_2_6 : w6.cell? ⟨w4.heap.size, 2, none⟩ = some (.slice A4_2 (List.length x0.2.2.1) c4_2) := (hb6.cell (by (try simp only [World.size_alloc]); (try dsimp only); omega)).trans ((World.cell?_alloc_lt _ _ _ (by (try simp only [World.size_alloc]); (try dsimp only); omega)).trans ex0_2_5)
  have ex0_3_6 : w6.cell? ⟨w4.heap.size, 3, none⟩ = some (.slice A4_3 (List.length x0.2.2.2) c4_3) := (hb6.cell (by (try simp only [World.size_alloc]); (try dsimp only); omega)).trans ((World.cell?_alloc_lt _ _ _ (by (try simp only [World.size_alloc]); (try dsimp only); omega)).trans ex0_3_5)
  have zx1_6 : w5.heap.size < w6.heap.size := by omega
  have ex1_0_6 : w6.cell? ⟨w5.heap.size, 0, none⟩ = some (.slice A5_0 (List.length x1.1) c5_0) := (hb6.cell (by (try simp only [World.size_alloc]); (try dsimp only); omega)).trans ((cell_new w5 47 #[.slice A5_0 (List.length x1.1) c5_0, .slice A5_1 (List.length x1.2.1) c5_1, .slice A5_2 (List.length x1.2.2.1) c5_2, .int .i64 x1.2.2.2.1, .int .i64 x1.2.2.2.2] 0 (by first | rfl | (simp only [World.size_alloc]))) : _ = some (Value.slice A5_0 (List.length x1.1) c5_0))
  have ex1_1_6 : w6.cell? ⟨w5.heap.size, 1, none⟩ = some (.slice A5_1 (List.length x1.2.1) c5_1) := (hb6.cell (by (try simp only [World.size_alloc]); (try dsimp only); omega)).trans ((cell_new w5 47 #[.slice A5_0 (List.length x1.1) c5_0, .slice A5_1 (List.length x1.2.1) c5_1, .slice A5_2 (List.length x1.2.2.1) c5_2, .int .i64 x1.2.2.2.1, .int .i64 x1.2.2.2.2] 1 (by first | rfl | (simp only [World.size_alloc]))) : _ = some (Value.slice A5_1 (List.length x1.2.1) c5_1))
  have ex1_2_6 : w6.cell? ⟨w5.heap.size, 2, none⟩ = some (.slice A5_2 (List.length x1.2.2.1) c5_2) := (hb6.cell (by (try simp only [World.size_alloc]); (try dsimp only); omega)).trans ((cell_new w5 47 #[.slice A5_0 (List.length x1.1) c5_0, .slice A5_1 (List.length x1.2.1) c5_1, .slice A5_2 (List.length x1.2.2.1) c5_2, .int .i64 x1.2.2.2.1, .int .i64 x1.2.2.2.2] 2 (by first | rfl | (simp only [World.size_alloc]))) : _ = some (Value.slice A5_2 (List.length x1.2.2.1) c5_2))
  have ex1_3_6 : w6.cell? ⟨w5.heap.size, 3, none⟩ = some (.int .i64 x1.2.2.2.1) := (hb6.cell (by (try simp only [World.size_alloc]); (try dsimp only); omega)).trans ((cell_new w5 47 #[.slice A5_0 (List.length x1.1) c5_0, .slice A5_1 (List.length x1.2.1) c5_1, .slice A5_2 (List.length x1.2.2.1) c5_2, .int .i64 x1.2.2.2.1, .int .i64 x1.2.2.2.2] 3 (by first | rfl | (simp only [World.size_alloc]))) : _ = some (Value.int .i64 x1.2.2.2.1))
  have ex1_4_6 : w6.cell? ⟨w5.heap.size, 4, none⟩ = some (.int .i64 x1.2.2.2.2) := (hb6.cell (by (try simp only [World.size_alloc]); (try dsimp only); omega)).trans ((cell_new w5 47 #[.slice A5_0 (List.length x1.1) c5_0, .slice A5_1 (List.length x1.2.1) c5_1, .slice A5_2 (List.length x1.2.2.1) c5_2, .int .i64 x1.2.2.2.1, .int .i64 x1.2.2.2.2] 4 (by first | rfl | (simp only [World.size_alloc]))) : _ = some (Value.int .i64 x1.2.2.2.2))
  clear ea0_0_5 ea0_1_5 ea0_2_5 ea0_3_5 ea1_0_5 ea1_1_5 ea1_2_5 ea1_3_5 ea1_4_5 ex0_0_5 ex0_1_5 ex0_2_5 ex0_3_5
  have frG0 : FrI (w5.heap.size + 1) w6.heap.size fp6 := hfr6.mono (by (try simp only [World.size_alloc]); omega) (Nat.le_refl _)
  have vG0_6 : Below w6.heap.size w6 w6 := Below.refl _ _
  have hq1 : ((f1_TrustChain x0 x1 a2) != (f1_TrustChain x0 x1 a2)) = false := by simp
  go_wp2_with fail
  refine (C_laws_eqNameS _ _ _ (f0_TrustChain x0 x1 a2) (Ty.ow_rd (Ty.ow_bel (by repeat' (first | (with_reducible exact Below.refl _ _) | (with_reducible assumption) | (with_reducible refine bel_set ?_ (by (try dsimp only); omega) _) | (with_reducible refine bel_alloc ?_ _) | (with_reducible refine bel_drewN ?_ _) | (with_reducible refine bel_drew ?_))) how6)) (Ty.ow_rd (Ty.ow_bel (by repeat' (first | (with_reducible exact Below.refl _ _) | (with_reducible assumption) | (with_reducible refine bel_set ?_ (by (try dsimp only); omega) _) | (with_reducible refine bel_alloc ?_ _) | (with_reducible refine bel_drewN ?_ _) | (with_reducible refine bel_drew ?_))) how3))).mono ?_
  rintro e w7 ⟨rfl, hb7⟩
  have st7 : Below w6.heap.size w6 w7 := bel_trans (by repeat' (first | (with_reducible exact Below.refl _ _) | (with_reducible assumption) | (with_reducible refine bel_set ?_ (by (try dsimp only); omega) _) | (with_reducible refine bel_alloc ?_ _) | (with_reducible refine bel_drewN ?_ _) | (with_reducible refine bel_drew ?_))) hb7
  have zz7 : w6.heap.size + 0 ≤ w7.heap.size := by have := hb7.size; (try simp only [World.size_alloc] at this); omega
  have vw_7 : Below w.heap.size w w7 := bel_trans vw_6 st7
  have vW0_7 : Below w3.heap.size w3 w7 := bel_trans vW0_6 st7
  have vX0_7 : Below w4.heap.size w4 w7 := bel_trans vX0_6 st7
  have vX1_7 : Below w5.heap.size w5 w7 := bel_trans vX1_6 st7
  have vG0_7 : Below w6.heap.size w6 w7 := st7
  have za0_7 : w.heap.size < w7.heap.size := by omega
  have ea0_0_7 : w7.cell? ⟨w.heap.size, 0, none⟩ = some (.slice A00 (List.length x0.1) c00) := (hb7.cell (by (try simp only [World.size_alloc]); (try dsimp only); omega)).trans ea0_0_6
  have ea0_1_7 : w7.cell? ⟨w.heap.size, 1, none⟩ = some (.slice A01 (List.length x0.2.1) c01) := (hb7.cell (by (try simp only [World.size_alloc]); (try dsimp only); omega)).trans ea0_1_6
  have ea0_2_7 : w7.cell? ⟨w.heap.size, 2, none⟩ = some (.slice A02 (List.length x0.2.2.1) c02) := (hb7.cell (by (try simp only [World.size_alloc]); (try dsimp only); omega)).trans ea0_2_6
  have ea0_3_7 : w7.cell? ⟨w.heap.size, 3, none⟩ = some (.slice A03 (List.length x0.2.2.2) c03) := (hb7.cell (by (try simp only [World.size_alloc]); (try dsimp only); omega)).trans ea0_3_6
  have za1_7 : w.heap.size + 1 < w7.heap.size := by omega
  have ea1_0_7 : w7.cell? ⟨w.heap.size + 1, 0, none⟩ = some (.slice A10 (List.length x1.1) c10) := (hb7.cell (by (try simp only [World.size_alloc]); (try dsimp only); omega)).trans ea1_0_6
  have ea1_1_7 : w7.cell? ⟨w.heap.size + 1, 1, none⟩ = some (.slice A11 (List.length x1.2.1) c11) := (hb7.cell (by (try simp only [World.size_alloc]); (try dsimp only); omega)).trans ea1_1_6
  have ea1_2_7 : w7.cell? ⟨w.heap.size + 1, 2, none⟩ = some (.slice A12 (List.length x1.2.2.1) c12) := (hb7.cell (by (try simp only [World.size_alloc]); (try dsimp only); omega)).trans ea1_2_6
  have ea1_3_7 : w7.cell? ⟨w.heap.size + 1, 3, none⟩ = some (.int .i64 x1.2.2.2.1) := (hb7.cell (by (try simp only [World.size_alloc]); (try dsimp only); omega)).trans ea1_3_6
  have ea1_4_7 : w7.cell? ⟨w.heap.size + 1, 4, none⟩ = some (.int .i64 x1.2.2.2.2) := (hb7.cell (by (try simp only [World.size_alloc]); (try dsimp only); omega)).trans ea1_4_6
  have zx0_7 : w4.heap.size < w7.heap.size := by omega
  have ex0_0_7 : w7.cell? ⟨w4.heap.size, 0, none⟩ = some (.slice A4_0 (List.length x0.1) c4_0) := (hb7.cell (by (try simp only [World.size_alloc]); (try dsimp only); omega)).trans ex0_0_6
  have ex0_1_7 : w7.cell? ⟨w4.heap.size, 1, none⟩ = some (.slice A4_1 (List.length x0.2.1) c4_1) := (hb7.cell (by (try simp only [World.size_alloc]); (try dsimp only); omega)).trans ex0_1_6
  have ex0_2_7 : w7.cell? ⟨w4.heap.size, 2, none⟩ = some (.slice A4_2 (List.length x0.2.2.1) c4_2) := (hb7.cell (by (try simp only [World.size_alloc]); (try dsimp only); omega)).trans ex0_2_6
  have ex0_3_7 : w7.cell? ⟨w4.heap.size, 3, none⟩ = some (.slice A4_3 (List.length x0.2.2.2) c4_3) := (hb7.cell (by (try simp only [World.size_alloc]); (try dsimp only); omega)).trans ex0_3_6
  have zx1_7 : w5.heap.size < w7.heap.size := by omega
  have ex1_0_7 : w7.cell? ⟨w5.heap.size, 0, none⟩ = some (.slice A5_0 (List.length x1.1) c5_0) := (hb7.cell (by (try simp only [World.size_alloc]); (try dsimp only); omega)).trans ex1_0_6
  have ex1_1_7 : w7.cell? ⟨w5.heap.size, 1, none⟩ = some (.slice A5_1 (List.length x1.2.1) c5_1) := (hb7.cell (by (try simp only [World.size_alloc]); (try dsimp only); omega)).trans ex1_1_6
  have ex1_2_7 : w7.cell? ⟨w5.heap.size, 2, none⟩ = some (.slice A5_2 (List.length x1.2.2.1) c5_2) := (hb7.cell (by (try simp only [World.size_alloc]); (try dsimp only); omega)).trans ex1_2_6
  have ex1_3_7 : w7.cell? ⟨w5.heap.size, 3, none⟩ = some (.int .i64 x1.2.2.2.1) := (hb7.cell (by (try simp only [World.size_alloc]); (try dsimp only); omega)).trans ex1_3_6
  have ex1_4_7 : w7.cell? ⟨w5.heap.size, 4, none⟩ = some (.int .i64 x1.2.2.2.2) := (hb7.cell (by (try simp only [World.size_alloc]); (try dsimp only); omega)).trans ex1_4_6
  clear ea0_0_6 ea0_1_6 ea0_2_6 ea0_3_6 ea1_0_6 ea1_1_6 ea1_2_6 ea1_3_6 ea1_4_6 ex0_0_6 ex0_1_6 ex0_2_6 ex0_3_6 ex1_0_6 ex1_1_6 ex1_2_6 ex1_3_6 ex1_4_6
  have HSq0 : Hid (∀ W, Below w7.heap.size w7 W → Below w7.heap.size w7 W ∧ W.cell? ⟨w.heap.size, 0, none⟩ = some (.slice A00 (List.length x0.1) c00) ∧ W.cell? ⟨w.heap.size, 1, none⟩ = some (.slice A01 (List.length x0.2.1) c01) ∧ W.cell? ⟨w.heap.size, 2, none⟩ = some (.slice A02 (List.length x0.2.2.1) c02) ∧ W.cell? ⟨w.heap.size, 3, none⟩ = some (.slice A03 (List.length x0.2.2.2) c03) ∧ W.cell? ⟨w.heap.size + 1, 0, none⟩ = some (.slice A10 (List.length x1.1) c10) ∧ W.cell? ⟨w.heap.size + 1, 1, none⟩ = some (.slice A11 (List.length x1.2.1) c11) ∧ W.cell? ⟨w.heap.size + 1, 2, none⟩ = some (.slice A12 (List.length x1.2.2.1) c12) ∧ W.cell? ⟨w.heap.size + 1, 3, none⟩ = some (.int .i64 x1.2.2.2.1) ∧ W.cell? ⟨w.heap.size + 1, 4, none⟩ = some (.int .i64 x1.2.2.2.2) ∧ W.cell? ⟨w4.heap.size, 0, none⟩ = some (.slice A4_0 (List.length x0.1) c4_0) ∧ W.cell? ⟨w4.heap.size, 1, none⟩ = some (.slice A4_1 (List.length x0.2.1) c4_1) ∧ W.cell? ⟨w4.heap.size, 2, none⟩ = some (.slice A4_2 (List.length x0.2.2.1) c4_2) ∧ W.cell? ⟨w4.heap.size, 3, none⟩ = some (.slice A4_3 (List.length x0.2.2.2) c4_3) ∧ W.cell? ⟨w5.heap.size, 0, none⟩ = some (.slice A5_0 (List.length x1.1) c5_0) ∧ W.cell? ⟨w5.heap.size, 1, none⟩ = some (.slice A5_1 (List.length x1.2.1) c5_1) ∧ W.cell? ⟨w5.heap.size, 2, none⟩ = some (.slice A5_2 (List.length x1.2.2.1) c5_2) ∧ W.cell? ⟨w5.heap.size, 3, none⟩ = some (.int .i64 x1.2.2.2.1) ∧ W.cell? ⟨w5.heap.size, 4, none⟩ = some (.int .i64 x1.2.2.2.2)) := fun W hW => ⟨hW, (hW.cell za0_7).trans ea0_0_7, (hW.cell za0_7).trans ea0_1_7, (hW.cell za0_7).trans ea0_2_7, (hW.cell za0_7).trans ea0_3_7, (hW.cell za1_7).trans ea1_0_7, (hW.cell za1_7).trans ea1_1_7, (hW.cell za1_7).trans ea1_2_7, (hW.cell za1_7).trans ea1_3_7, (hW.cell za1_7).trans ea1_4_7, (hW.cell zx0_7).trans ex0_0_7, (hW.cell zx0_7).trans ex0_1_7, (hW.cell zx0_7).trans ex0_2_7, (hW.cell zx0_7).trans ex0_3_7, (hW.cell zx1_7).trans ex1_0_7, (hW.cell zx1_7).trans ex1_1_7, (hW.cell zx1_7).trans ex1_2_7, (hW.cell zx1_7).trans ex1_3_7, (hW.cell zx1_7).trans ex1_4_7⟩
  go_wp2_with fail
  go_region_held3 (fun W => Below w7.heap.size w7 W ∧ W.cell? ⟨w.heap.size, 0, none⟩ = some (.slice A00 (List.length x0.1) c00) ∧ W.cell? ⟨w.heap.size, 1, none⟩ = some (.slice A01 (List.length x0.2.1) c01) ∧ W.cell? ⟨w.heap.size, 2, none⟩ = some (.slice A02 (List.length x0.2.2.1) c02) ∧ W.cell? ⟨w.heap.size, 3, none⟩ = some (.slice A03 (List.length x0.2.2.2) c03) ∧ W.cell? ⟨w.heap.size + 1, 0, none⟩ = some (.slice A10 (List.length x1.1) c10) ∧ W.cell? ⟨w.heap.size + 1, 1, none⟩ = some (.slice A11 (List.length x1.2.1) c11) ∧ W.cell? ⟨w.heap.size + 1, 2, none⟩ = some (.slice A12 (List.length x1.2.2.1) c12) ∧ W.cell? ⟨w.heap.size + 1, 3, none⟩ = some (.int .i64 x1.2.2.2.1) ∧ W.cell? ⟨w.heap.size + 1, 4, none⟩ = some (.int .i64 x1.2.2.2.2) ∧ W.cell? ⟨w4.heap.size, 0, none⟩ = some (.slice A4_0 (List.length x0.1) c4_0) ∧ W.cell? ⟨w4.heap.size, 1, none⟩ = some (.slice A4_1 (List.length x0.2.1) c4_1) ∧ W.cell? ⟨w4.heap.size, 2, none⟩ = some (.slice A4_2 (List.length x0.2.2.1) c4_2) ∧ W.cell? ⟨w4.heap.size, 3, none⟩ = some (.slice A4_3 (List.length x0.2.2.2) c4_3) ∧ W.cell? ⟨w5.heap.size, 0, none⟩ = some (.slice A5_0 (List.length x1.1) c5_0) ∧ W.cell? ⟨w5.heap.size, 1, none⟩ = some (.slice A5_1 (List.length x1.2.1) c5_1) ∧ W.cell? ⟨w5.heap.size, 2, none⟩ = some (.slice A5_2 (List.length x1.2.2.1) c5_2) ∧ W.cell? ⟨w5.heap.size, 3, none⟩ = some (.int .i64 x1.2.2.2.1) ∧ W.cell? ⟨w5.heap.size, 4, none⟩ = some (.int .i64 x1.2.2.2.2)) (exact HSq0.out _ (by repeat' (first | (with_reducible exact Below.refl _ _) | (with_reducible assumption) | (with_reducible refine bel_set ?_ (by (try dsimp only); omega) _) | (with_reducible refine bel_alloc ?_ _) | (with_reducible refine bel_drewN ?_ _) | (with_reducible refine bel_drew ?_))))
    (first
      | (go_at_call 7; (with_reducible refine (C_laws_toTrustPolicy _ _ x0 (Ty.rd_below (by repeat' (first | (with_reducible exact Below.refl _ _) | (with_reducible assumption) | (with_reducible refine bel_set ?_ (by (try dsimp only); omega) _) | (with_reducible refine bel_alloc ?_ _) | (with_reducible refine bel_drewN ?_ _) | (with_reducible refine bel_drew ?_))) h0) s0).mono ?_); rintro e wq ⟨csq, fpq, rfl, howq, hfrq, hbq⟩; have hvq : Below w7.heap.size w7 wq := bel_trans (by repeat' (first | (with_reducible exact Below.refl _ _) | (with_reducible assumption) | (with_reducible refine bel_set ?_ (by (try dsimp only); omega) _) | (with_reducible refine bel_alloc ?_ _) | (with_reducible refine bel_drewN ?_ _) | (with_reducible refine bel_drew ?_))) hbq; have hxq : Below w4.heap.size w4 wq := bel_trans vX0_7 hvq)
      | (go_at_call 11; (with_reducible refine (C_laws_eqTrustPolicy _ _ _ x0 (Ty.rd_below hxq (Ty.ow_rd how4)) (Ty.ow_rd howq)).mono ?_); rintro e w8 ⟨rfl, hb8⟩; have hvz : Below w7.heap.size w7 w8 := bel_trans hvq hb8))
  have st8 : Below w7.heap.size w7 w8 := hvz
  clear hvz
  have zz8 : w7.heap.size ≤ w8.heap.size := st8.size
  have vw_8 : Below w.heap.size w w8 := bel_trans vw_7 st8
  have vW0_8 : Below w3.heap.size w3 w8 := bel_trans vW0_7 st8
  have vX0_8 : Below w4.heap.size w4 w8 := bel_trans vX0_7 st8
  have vX1_8 : Below w5.heap.size w5 w8 := bel_trans vX1_7 st8
  have vG0_8 : Below w6.heap.size w6 w8 := bel_trans vG0_7 st8
  have za0_8 : w.heap.size < w8.heap.size := by omega
  have ea0_0_8 : w8.cell? ⟨w.heap.size, 0, none⟩ = some (.slice A00 (List.length x0.1) c00) := (st8.cell za0_7).trans ea0_0_7
  have ea0_1_8 : w8.cell? ⟨w.heap.size, 1, none⟩ = some (.slice A01 (List.length x0.2.1) c01) := (st8.cell za0_7).trans ea0_1_7
  have ea0_2_8 : w8.cell? ⟨w.heap.size, 2, none⟩ = some (.slice A02 (List.length x0.2.2.1) c02) := (st8.cell za0_7).trans ea0_2_7
  have ea0_3_8 : w8.cell? ⟨w.heap.size, 3, none⟩ = some (.slice A03 (List.length x0.2.2.2) c03) := (st8.cell za0_7).trans ea0_3_7
  have za1_8 : w.heap.size + 1 < w8.heap.size := by omega
  have ea1_0_8 : w8.cell? ⟨w.heap.size + 1, 0, none⟩ = some (.slice A10 (List.length x1.1) c10) := (st8.cell za1_7).trans ea1_0_7
  have ea1_1_8 : w8.cell? ⟨w.heap.size + 1, 1, none⟩ = some (.slice A11 (List.length x1.2.1) c11) := (st8.cell za1_7).trans ea1_1_7
  have ea1_2_8 : w8.cell? ⟨w.heap.size + 1, 2, none⟩ = some (.slice A12 (List.length x1.2.2.1) c12) := (st8.cell za1_7).trans ea1_2_7
  have ea1_3_8 : w8.cell? ⟨w.heap.size + 1, 3, none⟩ = some (.int .i64 x1.2.2.2.1) := (st8.cell za1_7).trans ea1_3_7
  have ea1_4_8 : w8.cell? ⟨w.heap.size + 1, 4, none⟩ = some (.int .i64 x1.2.2.2.2) := (st8.cell za1_7).trans ea1_4_7
  have zx0_8 : w4.heap.size < w8.heap.size := by omega
  have ex0_0_8 : w8.cell? ⟨w4.heap.size, 0, none⟩ = some (.slice A4_0 (List.length x0.1) c4_0) := (st8.cell zx0_7).trans ex0_0_7
  have ex0_1_8 : w8.cell? ⟨w4.heap.size, 1, none⟩ = some (.slice A4_1 (List.length x0.2.1) c4_1) := (st8.cell zx0_7).trans ex0_1_7
  have ex0_2_8 : w8.cell? ⟨w4.heap.size, 2, none⟩ = some (.slice A4_2 (List.length x0.2.2.1) c4_2) := (st8.cell zx0_7).trans ex0_2_7
  have ex0_3_8 : w8.cell? ⟨w4.heap.size, 3, none⟩ = some (.slice A4_3 (List.length x0.2.2.2) c4_3) := (st8.cell zx0_7).trans ex0_3_7
  have zx1_8 : w5.heap.size < w8.heap.size := by omega
  have ex1_0_8 : w8.cell? ⟨w5.heap.size, 0, none⟩ = some (.slice A5_0 (List.length x1.1) c5_0) := (st8.cell zx1_7).trans ex1_0_7
  have ex1_1_8 : w8.cell? ⟨w5.heap.size, 1, none⟩ = some (.slice A5_1 (List.length x1.2.1) c5_1) := (st8.cell zx1_7).trans ex1_1_7
  have ex1_2_8 : w8.cell? ⟨w5.heap.size, 2, none⟩ = some (.slice A5_2 (List.length x1.2.2.1) c5_2) := (st8.cell zx1_7).trans ex1_2_7
  have ex1_3_8 : w8.cell? ⟨w5.heap.size, 3, none⟩ = some (.int .i64 x1.2.2.2.1) := (st8.cell zx1_7).trans ex1_3_7
  have ex1_4_8 : w8.cell? ⟨w5.heap.size, 4, none⟩ = some (.int .i64 x1.2.2.2.2) := (st8.cell zx1_7).trans ex1_4_7
  clear ea0_0_7 ea0_1_7 ea0_2_7 ea0_3_7 ea1_0_7 ea1_1_7 ea1_2_7 ea1_3_7 ea1_4_7 ex0_0_7 ex0_1_7 ex0_2_7 ex0_3_7 ex1_0_7 ex1_1_7 ex1_2_7 ex1_3_7 ex1_4_7
  have HSq1 : Hid (∀ W, Below w8.heap.size w8 W → Below w8.heap.size w8 W ∧ W.cell? ⟨w.heap.size, 0, none⟩ = some (.slice A00 (List.length x0.1) c00) ∧ W.cell? ⟨w.heap.size, 1, none⟩ = some (.slice A01 (List.length x0.2.1) c01) ∧ W.cell? ⟨w.heap.size, 2, none⟩ = some (.slice A02 (List.length x0.2.2.1) c02) ∧ W.cell? ⟨w.heap.size, 3, none⟩ = some (.slice A03 (List.length x0.2.2.2) c03) ∧ W.cell? ⟨w.heap.size + 1, 0, none⟩ = some (.slice A10 (List.length x1.1) c10) ∧ W.cell? ⟨w.heap.size + 1, 1, none⟩ = some (.slice A11 (List.length x1.2.1) c11) ∧ W.cell? ⟨w.heap.size + 1, 2, none⟩ = some (.slice A12 (List.length x1.2.2.1) c12) ∧ W.cell? ⟨w.heap.size + 1, 3, none⟩ = some (.int .i64 x1.2.2.2.1) ∧ W.cell? ⟨w.heap.size + 1, 4, none⟩ = some (.int .i64 x1.2.2.2.2) ∧ W.cell? ⟨w4.heap.size, 0, none⟩ = some (.slice A4_0 (List.length x0.1) c4_0) ∧ W.cell? ⟨w4.heap.size, 1, none⟩ = some (.slice A4_1 (List.length x0.2.1) c4_1) ∧ W.cell? ⟨w4.heap.size, 2, none⟩ = some (.slice A4_2 (List.length x0.2.2.1) c4_2) ∧ W.cell? ⟨w4.heap.size, 3, none⟩ = some (.slice A4_3 (List.length x0.2.2.2) c4_3) ∧ W.cell? ⟨w5.heap.size, 0, none⟩ = some (.slice A5_0 (List.length x1.1) c5_0) ∧ W.cell? ⟨w5.heap.size, 1, none⟩ = some (.slice A5_1 (List.length x1.2.1) c5_1) ∧ W.cell? ⟨w5.heap.size, 2, none⟩ = some (.slice A5_2 (List.length x1.2.2.1) c5_2) ∧ W.cell? ⟨w5.heap.size, 3, none⟩ = some (.int .i64 x1.2.2.2.1) ∧ W.cell? ⟨w5.heap.size, 4, none⟩ = some (.int .i64 x1.2.2.2.2)) := fun W hW => ⟨hW, (hW.cell za0_8).trans ea0_0_8, (hW.cell za0_8).trans ea0_1_8, (hW.cell za0_8).trans ea0_2_8, (hW.cell za0_8).trans ea0_3_8, (hW.cell za1_8).trans ea1_0_8, (hW.cell za1_8).trans ea1_1_8, (hW.cell za1_8).trans ea1_2_8, (hW.cell za1_8).trans ea1_3_8, (hW.cell za1_8).trans ea1_4_8, (hW.cell zx0_8).trans ex0_0_8, (hW.cell zx0_8).trans ex0_1_8, (hW.cell zx0_8).trans ex0_2_8, (hW.cell zx0_8).trans ex0_3_8, (hW.cell zx1_8).trans ex1_0_8, (hW.cell zx1_8).trans ex1_1_8, (hW.cell zx1_8).trans ex1_2_8, (hW.cell zx1_8).trans ex1_3_8, (hW.cell zx1_8).trans ex1_4_8⟩
  go_wp2_with fail
  go_region_held3 (fun W => Below w8.heap.size w8 W ∧ W.cell? ⟨w.heap.size, 0, none⟩ = some (.slice A00 (List.length x0.1) c00) ∧ W.cell? ⟨w.heap.size, 1, none⟩ = some (.slice A01 (List.length x0.2.1) c01) ∧ W.cell? ⟨w.heap.size, 2, none⟩ = some (.slice A02 (List.length x0.2.2.1) c02) ∧ W.cell? ⟨w.heap.size, 3, none⟩ = some (.slice A03 (List.length x0.2.2.2) c03) ∧ W.cell? ⟨w.heap.size + 1, 0, none⟩ = some (.slice A10 (List.length x1.1) c10) ∧ W.cell? ⟨w.heap.size + 1, 1, none⟩ = some (.slice A11 (List.length x1.2.1) c11) ∧ W.cell? ⟨w.heap.size + 1, 2, none⟩ = some (.slice A12 (List.length x1.2.2.1) c12) ∧ W.cell? ⟨w.heap.size + 1, 3, none⟩ = some (.int .i64 x1.2.2.2.1) ∧ W.cell? ⟨w.heap.size + 1, 4, none⟩ = some (.int .i64 x1.2.2.2.2) ∧ W.cell? ⟨w4.heap.size, 0, none⟩ = some (.slice A4_0 (List.length x0.1) c4_0) ∧ W.cell? ⟨w4.heap.size, 1, none⟩ = some (.slice A4_1 (List.length x0.2.1) c4_1) ∧ W.cell? ⟨w4.heap.size, 2, none⟩ = some (.slice A4_2 (List.length x0.2.2.1) c4_2) ∧ W.cell? ⟨w4.heap.size, 3, none⟩ = some (.slice A4_3 (List.length x0.2.2.2) c4_3) ∧ W.cell? ⟨w5.heap.size, 0, none⟩ = some (.slice A5_0 (List.length x1.1) c5_0) ∧ W.cell? ⟨w5.heap.size, 1, none⟩ = some (.slice A5_1 (List.length x1.2.1) c5_1) ∧ W.cell? ⟨w5.heap.size, 2, none⟩ = some (.slice A5_2 (List.length x1.2.2.1) c5_2) ∧ W.cell? ⟨w5.heap.size, 3, none⟩ = some (.int .i64 x1.2.2.2.1) ∧ W.cell? ⟨w5.heap.size, 4, none⟩ = some (.int .i64 x1.2.2.2.2)) (exact HSq1.out _ (by repeat' (first | (with_reducible exact Below.refl _ _) | (with_reducible assumption) | (with_reducible refine bel_set ?_ (by (try dsimp only); omega) _) | (with_reducible refine bel_alloc ?_ _) | (with_reducible refine bel_drewN ?_ _) | (with_reducible refine bel_drew ?_))))
    (first
      | (go_at_call 8; (with_reducible refine (C_laws_toData _ _ x1 (Ty.rd_below (by repeat' (first | (with_reducible exact Below.refl _ _) | (with_reducible assumption) | (with_reducible refine bel_set ?_ (by (try dsimp only); omega) _) | (with_reducible refine bel_alloc ?_ _) | (with_reducible refine bel_drewN ?_ _) | (with_reducible refine bel_drew ?_))) h1) s1).mono ?_); rintro e wq ⟨csq, fpq, rfl, howq, hfrq, hbq⟩; have hvq : Below w8.heap.size w8 wq := bel_trans (by repeat' (first | (with_reducible exact Below.refl _ _) | (with_reducible assumption) | (with_reducible refine bel_set ?_ (by (try dsimp only); omega) _) | (with_reducible refine bel_alloc ?_ _) | (with_reducible refine bel_drewN ?_ _) | (with_reducible refine bel_drew ?_))) hbq; have hxq : Below w5.heap.size w5 wq := bel_trans vX1_8 hvq)
      | (go_at_call 12; (with_reducible refine (C_laws_eqData _ _ _ x1 (Ty.rd_below hxq (Ty.ow_rd how5)) (Ty.ow_rd howq)).mono ?_); rintro e w9 ⟨rfl, hb9⟩; have hvz : Below w8.heap.size w8 w9 := bel_trans hvq hb9))
  have st9 : Below w8.heap.size w8 w9 := hvz
  clear hvz
  have zz9 : w8.heap.size ≤ w9.heap.size := st9.size
  have vw_9 : Below w.heap.size w w9 := bel_trans vw_8 st9
  have vW0_9 : Below w3.heap.size w3 w9 := bel_trans vW0_8 st9
  have vX0_9 : Below w4.heap.size w4 w9 := bel_trans vX0_8 st9
  have vX1_9 : Below w5.heap.size w5 w9 := bel_trans vX1_8 st9
  have vG0_9 : Below w6.heap.size w6 w9 := bel_trans vG0_8 st9
  have za0_9 : w.heap.size < w9.heap.size := by omega
  have ea0_0_9 : w9.cell? ⟨w.heap.size, 0, none⟩ = some (.slice A00 (List.length x0.1) c00) := (st9.cell za0_8).trans ea0_0_8
  have ea0_1_9 : w9.cell? ⟨w.heap.size, 1, none⟩ = some (.slice A01 (List.length x0.2.1) c01) := (st9.cell za0_8).trans ea0_1_8
  have ea0_2_9 : w9.cell? ⟨w.heap.size, 2, none⟩ = some (.slice A02 (List.length x0.2.2.1) c02) := (st9.cell za0_8).trans ea0_2_8
  have ea0_3_9 : w9.cell? ⟨w.heap.size, 3, none⟩ = some (.slice A03 (List.length x0.2.2.2) c03) := (st9.cell za0_8).trans ea0_3_8
  have za1_9 : w.heap.size + 1 < w9.heap.size := by omega
  have ea1_0_9 : w9.cell? ⟨w.heap.size + 1, 0, none⟩ = some (.slice A10 (List.length x1.1) c10) := (st9.cell za1_8).trans ea1_0_8
  have ea1_1_9 : w9.cell? ⟨w.heap.size + 1, 1, none⟩ = some (.slice A11 (List.length x1.2.1) c11) := (st9.cell za1_8).trans ea1_1_8
  have ea1_2_9 : w9.cell? ⟨w.heap.size + 1, 2, none⟩ = some (.slice A12 (List.length x1.2.2.1) c12) := (st9.cell za1_8).trans ea1_2_8
  have ea1_3_9 : w9.cell? ⟨w.heap.size + 1, 3, none⟩ = some (.int .i64 x1.2.2.2.1) := (st9.cell za1_8).trans ea1_3_8
  have ea1_4_9 : w9.cell? ⟨w.heap.size + 1, 4, none⟩ = some (.int .i64 x1.2.2.2.2) := (st9.cell za1_8).trans ea1_4_8
  have zx0_9 : w4.heap.size < w9.heap.size := by omega
  have ex0_0_9 : w9.cell? ⟨w4.heap.size, 0, none⟩ = some (.slice A4_0 (List.length x0.1) c4_0) := (st9.cell zx0_8).trans ex0_0_8
  have ex0_1_9 : w9.cell? ⟨w4.heap.size, 1, none⟩ = some (.slice A4_1 (List.length x0.2.1) c4_1) := (st9.cell zx0_8).trans ex0_1_8
  have ex0_2_9 : w9.cell? ⟨w4.heap.size, 2, none⟩ = some (.slice A4_2 (List.length x0.2.2.1) c4_2) := (st9.cell zx0_8).trans ex0_2_8
  have ex0_3_9 : w9.cell? ⟨w4.heap.size, 3, none⟩ = some (.slice A4_3 (List.length x0.2.2.2) c4_3) := (st9.cell zx0_8).trans ex0_3_8
  have zx1_9 : w5.heap.size < w9.heap.size := by omega
  have ex1_0_9 : w9.cell? ⟨w5.heap.size, 0, none⟩ = some (.slice A5_0 (List.length x1.1) c5_0) := (st9.cell zx1_8).trans ex1_0_8
  have ex1_1_9 : w9.cell? ⟨w5.heap.size, 1, none⟩ = some (.slice A5_1 (List.length x1.2.1) c5_1) := (st9.cell zx1_8).trans ex1_1_8
  have ex1_2_9 : w9.cell? ⟨w5.heap.size, 2, none⟩ = some (.slice A5_2 (List.length x1.2.2.1) c5_2) := (st9.cell zx1_8).trans ex1_2_8
  have ex1_3_9 : w9.cell? ⟨w5.heap.size, 3, none⟩ = some (.int .i64 x1.2.2.2.1) := (st9.cell zx1_8).trans ex1_3_8
  have ex1_4_9 : w9.cell? ⟨w5.heap.size, 4, none⟩ = some (.int .i64 x1.2.2.2.2) := (st9.cell zx1_8).trans ex1_4_8
  clear ea0_0_8 ea0_1_8 ea0_2_8 ea0_3_8 ea1_0_8 ea1_1_8 ea1_2_8 ea1_3_8 ea1_4_8 ex0_0_8 ex0_1_8 ex0_2_8 ex0_3_8 ex1_0_8 ex1_1_8 ex1_2_8 ex1_3_8 ex1_4_8
  have cb0 : Ty.cntv tTrustPolicy x0 ≤ 100000000 := Nat.le_trans (Ty.cntv_le tTrustPolicy x0) (Nat.le_trans (Nat.mul_le_mul_left _ s0) (by decide))
  have cb1 : Ty.cntv tData x1 ≤ 100000000 := Nat.le_trans (Ty.cntv_le tData x1) (Nat.le_trans (Nat.mul_le_mul_left _ s1) (by decide))
  have cbG : Ty.cnt (.sl (.sl .str)) (f0_TrustChain x0 x1 a2) ≤ 100000000000 := N_TrustChain s0 s1
  go_wp2_with fail
  refine (C_laws_markTrustPolicy _ _ x0 fp4 (1) (Ty.ow_bel (by repeat' (first | (with_reducible exact Below.refl _ _) | (with_reducible assumption) | (with_reducible refine bel_set ?_ (by (try dsimp only); omega) _) | (with_reducible refine bel_alloc ?_ _) | (with_reducible refine bel_drewN ?_ _) | (with_reducible refine bel_drew ?_))) how4) frX0.1 (by omega) (by omega)).mono ?_
  rintro e w10 ⟨rfl, hm10, hk10⟩
  have zz10 : w9.heap.size ≤ w10.heap.size := hk10.size
  have szl10 : w.heap.size ≤ w3.heap.size := vw_3.size
  have vw_10 : Below w.heap.size w w10 := vw_9.trans (hk10.below vw_9.size (fun y hy => by have := frX0.2 y hy; omega))
  have howW0_10 : Ty.ow w10 (.sl (.sl .str)) [.slice A3_ (List.length (f0_TrustChain x0 x1 a2)) c3_] (f0_TrustChain x0 x1 a2) fp3 := Ty.ow_keep (fun y hy => (hk10.block y (Nat.lt_of_lt_of_le (Ty.ow_lt how3 y hy) vW0_9.size) (fun hy2 => by have := frW0.2 y hy; have := frX0.2 y hy2; omega)).trans (vW0_9.block y (Ty.ow_lt how3 y hy))) how3
  have vW0_10 : Below w10.heap.size w10 w10 := Below.refl _ _
  have howX1_10 : Ty.ow w10 tData [.slice A5_0 (List.length x1.1) c5_0, .slice A5_1 (List.length x1.2.1) c5_1, .slice A5_2 (List.length x1.2.2.1) c5_2, .int .i64 x1.2.2.2.1, .int .i64 x1.2.2.2.2] x1 fp5 := Ty.ow_keep (fun y hy => (hk10.block y (Nat.lt_of_lt_of_le (Ty.ow_lt how5 y hy) vX1_9.size) (fun hy2 => by have := frX1.2 y hy; have := frX0.2 y hy2; omega)).trans (vX1_9.block y (Ty.ow_lt how5 y hy))) how5
  have vX1_10 : Below w10.heap.size w10 w10 := Below.refl _ _
  have howG0_10 : Ty.ow w10 (.sl (.sl .str)) [.slice A6_ (List.length (f0_TrustChain x0 x1 a2)) c6_] (f0_TrustChain x0 x1 a2) fp6 := Ty.ow_keep (fun y hy => (hk10.block y (Nat.lt_of_lt_of_le (Ty.ow_lt how6 y hy) vG0_9.size) (fun hy2 => by have := frG0.2 y hy; have := frX0.2 y hy2; omega)).trans (vG0_9.block y (Ty.ow_lt how6 y hy))) how6
  have vG0_10 : Below w10.heap.size w10 w10 := Below.refl _ _
  have za0_10 : w.heap.size < w10.heap.size := by omega
  have hBa0_10 : w10.heap[w.heap.size]? = w9.heap[w.heap.size]? := hk10.block _ za0_9 (fun hy => by have := frX0.2 _ hy; omega)
  have ea0_0_10 : w10.cell? ⟨w.heap.size, 0, none⟩ = some (.slice A00 (List.length x0.1) c00) := (cell_of_heap hBa0_10 0).trans ea0_0_9
  have ea0_1_10 : w10.cell? ⟨w.heap.size, 1, none⟩ = some (.slice A01 (List.length x0.2.1) c01) := (cell_of_heap hBa0_10 1).trans ea0_1_9
  have ea0_2_10 : w10.cell? ⟨w.heap.size, 2, none⟩ = some (.slice A02 (List.length x0.2.2.1) c02) := (cell_of_heap hBa0_10 2).trans ea0_2_9
  have ea0_3_10 : w10.cell? ⟨w.heap.size, 3, none⟩ = some (.slice A03 (List.length x0.2.2.2) c03) := (cell_of_heap hBa0_10 3).trans ea0_3_9
  have za1_10 : w.heap.size + 1 < w10.heap.size := by omega
  have hBa1_10 : w10.heap[w.heap.size + 1]? = w9.heap[w.heap.size + 1]? := hk10.block _ za1_9 (fun hy => by have := frX0.2 _ hy; omega)
  have ea1_0_10 : w10.cell? ⟨w.heap.size + 1, 0, none⟩ = some (.slice A10 (List.length x1.1) c10) := (cell_of_heap hBa1_10 0).trans ea1_0_9
  have ea1_1_10 : w10.cell? ⟨w.heap.size + 1, 1, none⟩ = some (.slice A11 (List.length x1.2.1) c11) := (cell_of_heap hBa1_10 1).trans ea1_1_9
  have ea1_2_10 : w10.cell? ⟨w.heap.size + 1, 2, none⟩ = some (.slice A12 (List.length x1.2.2.1) c12) := (cell_of_heap hBa1_10 2).trans ea1_2_9
  have ea1_3_10 : w10.cell? ⟨w.heap.size + 1, 3, none⟩ = some (.int .i64 x1.2.2.2.1) := (cell_of_heap hBa1_10 3).trans ea1_3_9
  have ea1_4_10 : w10.cell? ⟨w.heap.size + 1, 4, none⟩ = some (.int .i64 x1.2.2.2.2) := (cell_of_heap hBa1_10 4).trans ea1_4_9
  have zx0_10 : w4.heap.size < w10.heap.size := by omega
  have hBx0_10 : w10.heap[w4.heap.size]? = w9.heap[w4.heap.size]? := hk10.block _ zx0_9 (fun hy => by have := frX0.2 _ hy; omega)
  have ex0_0_10 : w10.cell? ⟨w4.heap.size, 0, none⟩ = some (.slice A4_0 (List.length x0.1) c4_0) := (cell_of_heap hBx0_10 0).trans ex0_0_9
  have ex0_1_10 : w10.cell? ⟨w4.heap.size, 1, none⟩ = some (.slice A4_1 (List.length x0.2.1) c4_1) := (cell_of_heap hBx0_10 1).trans ex0_1_9
  have ex0_2_10 : w10.cell? ⟨w4.heap.size, 2, none⟩ = some (.slice A4_2 (List.length x0.2.2.1) c4_2) := (cell_of_heap hBx0_10 2).trans ex0_2_9
  have ex0_3_10 : w10.cell? ⟨w4.heap.size, 3, none⟩ = some (.slice A4_3 (List.length x0.2.2.2) c4_3) := (cell_of_heap hBx0_10 3).trans ex0_3_9
  have zx1_10 : w5.heap.size < w10.heap.size := by omega
  have hBx1_10 : w10.heap[w5.heap.size]? = w9.heap[w5.heap.size]? := hk10.block _ zx1_9 (fun hy => by have := frX0.2 _ hy; omega)
  have ex1_0_10 : w10.cell? ⟨w5.heap.size, 0, none⟩ = some (.slice A5_0 (List.length x1.1) c5_0) := (cell_of_heap hBx1_10 0).trans ex1_0_9
  have ex1_1_10 : w10.cell? ⟨w5.heap.size, 1, none⟩ = some (.slice A5_1 (List.length x1.2.1) c5_1) := (cell_of_heap hBx1_10 1).trans ex1_1_9
  have ex1_2_10 : w10.cell? ⟨w5.heap.size, 2, none⟩ = some (.slice A5_2 (List.length x1.2.2.1) c5_2) := (cell_of_heap hBx1_10 2).trans ex1_2_9
  have ex1_3_10 : w10.cell? ⟨w5.heap.size, 3, none⟩ = some (.int .i64 x1.2.2.2.1) := (cell_of_heap hBx1_10 3).trans ex1_3_9
  have ex1_4_10 : w10.cell? ⟨w5.heap.size, 4, none⟩ = some (.int .i64 x1.2.2.2.2) := (cell_of_heap hBx1_10 4).trans ex1_4_9
  clear ea0_0_9 ea0_1_9 ea0_2_9 ea0_3_9 ea1_0_9 ea1_1_9 ea1_2_9 ea1_3_9 ea1_4_9 ex0_0_9 ex0_1_9 ex0_2_9 ex0_3_9 ex1_0_9 ex1_1_9 ex1_2_9 ex1_3_9 ex1_4_9
  go_wp2_with fail
  refine (C_laws_markData _ _ x1 fp5 (1 + ((Ty.cntv tTrustPolicy x0 : Nat) : Int)) (Ty.ow_bel (by repeat' (first | (with_reducible exact Below.refl _ _) | (with_reducible assumption) | (with_reducible refine bel_set ?_ (by (try dsimp only); omega) _) | (with_reducible refine bel_alloc ?_ _) | (with_reducible refine bel_drewN ?_ _) | (with_reducible refine bel_drew ?_))) howX1_10) frX1.1 (by omega) (by omega)).mono ?_
  rintro e w11 ⟨rfl, hm11, hk11⟩
  have zz11 : w10.heap.size ≤ w11.heap.size := hk11.size
  have szl11 : w.heap.size ≤ w4.heap.size := vw_4.size
  have vw_11 : Below w.heap.size w w11 := vw_10.trans (hk11.below vw_10.size (fun y hy => by have := frX1.2 y hy; omega))
  have howW0_11 : Ty.ow w11 (.sl (.sl .str)) [.slice A3_ (List.length (f0_TrustChain x0 x1 a2)) c3_] (f0_TrustChain x0 x1 a2) fp3 := Ty.ow_keep (fun y hy => (hk11.block y (Nat.lt_of_lt_of_le (Ty.ow_lt howW0_10 y hy) vW0_10.size) (fun hy2 => by have := frW0.2 y hy; have := frX1.2 y hy2; omega)).trans (vW0_10.block y (Ty.ow_lt howW0_10 y hy))) howW0_10
  have vW0_11 : Below w11.heap.size w11 w11 := Below.refl _ _
  have howG0_11 : Ty.ow w11 (.sl (.sl .str)) [.slice A6_ (List.length (f0_TrustChain x0 x1 a2)) c6_] (f0_TrustChain x0 x1 a2) fp6 := Ty.ow_keep (fun y hy => (hk11.block y (Nat.lt_of_lt_of_le (Ty.ow_lt howG0_10 y hy) vG0_10.size) (fun hy2 => by have := frG0.2 y hy; have := frX1.2 y hy2; omega)).trans (vG0_10.block y (Ty.ow_lt howG0_10 y hy))) howG0_10
  have vG0_11 : Below w11.heap.size w11 w11 := Below.refl _ _
  have za0_11 : w.heap.size < w11.heap.size := by omega
  have hBa0_11 : w11.heap[w.heap.size]? = w10.heap[w.heap.size]? := hk11.block _ za0_10 (fun hy => by have := frX1.2 _ hy; omega)
  have ea0_0_11 : w11.cell? ⟨w.heap.size, 0, none⟩ = some (.slice A00 (List.length x0.1) c00) := (cell_of_heap hBa0_11 0).trans ea0_0_10
  have ea0_1_11 : w11.cell? ⟨w.heap.size, 1, none⟩ = some (.slice A01 (List.length x0.2.1) c01) := (cell_of_heap hBa0_11 1).trans ea0_1_10
  have ea0_2_11 : w11.cell? ⟨w.heap.size, 2, none⟩ = some (.slice A02 (List.length x0.2.2.1) c02) := (cell_of_heap hBa0_11 2).trans ea0_2_10
  have ea0_3_11 : w11.cell? ⟨w.heap.size, 3, none⟩ = some (.slice A03 (List.length x0.2.2.2) c03) := (cell_of_heap hBa0_11 3).trans ea0_3_10
  have za1_11 : w.heap.size + 1 < w11.heap.size := by omega
  have hBa1_11 : w11.heap[w.heap.size + 1]? = w10.heap[w.heap.size + 1]? := hk11.block _ za1_10 (fun hy => by have := frX1.2 _ hy; omega)
  have ea1_0_11 : w11.cell? ⟨w.heap.size + 1, 0, none⟩ = some (.slice A10 (List.length x1.1) c10) := (cell_of_heap hBa1_11 0).trans ea1_0_10
  have ea1_1_11 : w11.cell? ⟨w.heap.size + 1, 1, none⟩ = some (.slice A11 (List.length x1.2.1) c11) := (cell_of_heap hBa1_11 1).trans ea1_1_10
  have ea1_2_11 : w11.cell? ⟨w.heap.size + 1, 2, none⟩ = some (.slice A12 (List.length x1.2.2.1) c12) := (cell_of_heap hBa1_11 2).trans ea1_2_10
  have ea1_3_11 : w11.cell? ⟨w.heap.size + 1, 3, none⟩ = some (.int .i64 x1.2.2.2.1) := (cell_of_heap hBa1_11 3).trans ea1_3_10
  have ea1_4_11 : w11.cell? ⟨w.heap.size + 1, 4, none⟩ = some (.int .i64 x1.2.2.2.2) := (cell_of_heap hBa1_11 4).trans ea1_4_10
  have zx0_11 : w4.heap.size < w11.heap.size := by omega
  have hBx0_11 : w11.heap[w4.heap.size]? = w10.heap[w4.heap.size]? := hk11.block _ zx0_10 (fun hy => by have := frX1.2 _ hy; omega)
  have ex0_0_11 : w11.cell? ⟨w4.heap.size, 0, none⟩ = some (.slice A4_0 (List.length x0.1) c4_0) := (cell_of_heap hBx0_11 0).trans ex0_0_10
  have ex0_1_11 : w11.cell? ⟨w4.heap.size, 1, none⟩ = some (.slice A4_1 (List.length x0.2.1) c4_1) := (cell_of_heap hBx0_11 1).trans ex0_1_10
  have ex0_2_11 : w11.cell? ⟨w4.heap.size, 2, none⟩ = some (.slice A4_2 (List.length x0.2.2.1) c4_2) := (cell_of_heap hBx0_11 2).trans ex0_2_10
  have ex0_3_11 : w11.cell? ⟨w4.heap.size, 3, none⟩ = some (.slice A4_3 (List.length x0.2.2.2) c4_3) := (cell_of_heap hBx0_11 3).trans ex0_3_10
  have zx1_11 : w5.heap.size < w11.heap.size := by omega
  have hBx1_11 : w11.heap[w5.heap.size]? = w10.heap[w5.heap.size]? := hk11.block _ zx1_10 (fun hy => by have := frX1.2 _ hy; omega)
  have ex1_0_11 : w11.cell? ⟨w5.heap.size, 0, none⟩ = some (.slice A5_0 (List.length x1.1) c5_0) := (cell_of_heap hBx1_11 0).trans ex1_0_10
  have ex1_1_11 : w11.cell? ⟨w5.heap.size, 1, none⟩ = some (.slice A5_1 (List.length x1.2.1) c5_1) := (cell_of_heap hBx1_11 1).trans ex1_1_10
  have ex1_2_11 : w11.cell? ⟨w5.heap.size, 2, none⟩ = some (.slice A5_2 (List.length x1.2.2.1) c5_2) := (cell_of_heap hBx1_11 2).trans ex1_2_10
  have ex1_3_11 : w11.cell? ⟨w5.heap.size, 3, none⟩ = some (.int .i64 x1.2.2.2.1) := (cell_of_heap hBx1_11 3).trans ex1_3_10
  have ex1_4_11 : w11.cell? ⟨w5.heap.size, 4, none⟩ = some (.int .i64 x1.2.2.2.2) := (cell_of_heap hBx1_11 4).trans ex1_4_10
  clear ea0_0_10 ea0_1_10 ea0_2_10 ea0_3_10 ea1_0_10 ea1_1_10 ea1_2_10 ea1_3_10 ea1_4_10 ex0_0_10 ex0_1_10 ex0_2_10 ex0_3_10 ex1_0_10 ex1_1_10 ex1_2_10 ex1_3_10 ex1_4_10
  go_wp2_with fail
  refine (C_laws_eqNameS _ _ _ (f0_TrustChain x0 x1 a2) (Ty.ow_rd (Ty.ow_bel (by repeat' (first | (with_reducible exact Below.refl _ _) | (with_reducible assumption) | (with_reducible refine bel_set ?_ (by (try dsimp only); omega) _) | (with_reducible refine bel_alloc ?_ _) | (with_reducible refine bel_drewN ?_ _) | (with_reducible refine bel_drew ?_))) howG0_11)) (Ty.ow_rd (Ty.ow_bel (by repeat' (first | (with_reducible exact Below.refl _ _) | (with_reducible assumption) | (with_reducible refine bel_set ?_ (by (try dsimp only); omega) _) | (with_reducible refine bel_alloc ?_ _) | (with_reducible refine bel_drewN ?_ _) | (with_reducible refine bel_drew ?_))) howW0_11))).mono ?_
  rintro e w12 ⟨rfl, hb12⟩
  have st12 : Below w11.heap.size w11 w12 := bel_trans (by repeat' (first | (with_reducible exact Below.refl _ _) | (with_reducible assumption) | (with_reducible refine bel_set ?_ (by (try dsimp only); omega) _) | (with_reducible refine bel_alloc ?_ _) | (with_reducible refine bel_drewN ?_ _) | (with_reducible refine bel_drew ?_))) hb12
  have zz12 : w11.heap.size + 0 ≤ w12.heap.size := by have := hb12.size; (try simp only [World.size_alloc] at this); omega
  have vw_12 : Below w.heap.size w w12 := bel_trans vw_11 st12
  have vW0_12 : Below w11.heap.size w11 w12 := st12
  have vG0_12 : Below w11.heap.size w11 w12 := st12
  have za0_12 : w.heap.size < w12.heap.size := by omega
  have ea0_0_12 : w12.cell? ⟨w.heap.size, 0, none⟩ = some (.slice A00 (List.length x0.1) c00) := (hb12.cell (by (try simp only [World.size_alloc]); (try dsimp only); omega)).trans ea0_0_11
  have ea0_1_12 : w12.cell? ⟨w.heap.size, 1, none⟩ = some (.slice A01 (List.length x0.2.1) c01) := (hb12.cell (by (try simp only [World.size_alloc]); (try dsimp only); omega)).trans ea0_1_11
  have ea0_2_12 : w12.cell? ⟨w.heap.size, 2, none⟩ = some (.slice A02 (List.length x0.2.2.1) c02) := (hb12.cell (by (try simp only [World.size_alloc]); (try dsimp only); omega)).trans ea0_2_11
  have ea0_3_12 : w12.cell? ⟨w.heap.size, 3, none⟩ = some (.slice A03 (List.length x0.2.2.2) c03) := (hb12.cell (by (try simp only [World.size_alloc]); (try dsimp only); omega)).trans ea0_3_11
  have za1_12 : w.heap.size + 1 < w12.heap.size := by omega
  have ea1_0_12 : w12.cell? ⟨w.heap.size + 1, 0, none⟩ = some (.slice A10 (List.length x1.1) c10) := (hb12.cell (by (try simp only [World.size_alloc]); (try dsimp only); omega)).trans ea1_0_11
  have ea1_1_12 : w12.cell? ⟨w.heap.size + 1, 1, none⟩ = some (.slice A11 (List.length x1.2.1) c11) := (hb12.cell (by (try simp only [World.size_alloc]); (try dsimp only); omega)).trans ea1_1_11
  have ea1_2_12 : w12.cell? ⟨w.heap.size + 1, 2, none⟩ = some (.slice A12 (List.length x1.2.2.1) c12) := (hb12.cell (by (try simp only [World.size_alloc]); (try dsimp only); omega)).trans ea1_2_11
  have ea1_3_12 : w12.cell? ⟨w.heap.size + 1, 3, none⟩ = some (.int .i64 x1.2.2.2.1) := (hb12.cell (by (try simp only [World.size_alloc]); (try dsimp only); omega)).trans ea1_3_11
  have ea1_4_12 : w12.cell? ⟨w.heap.size + 1, 4, none⟩ = some (.int .i64 x1.2.2.2.2) := (hb12.cell (by (try simp only [World.size_alloc]); (try dsimp only); omega)).trans ea1_4_11
  have zx0_12 : w4.heap.size < w12.heap.size := by omega
  have ex0_0_12 : w12.cell? ⟨w4.heap.size, 0, none⟩ = some (.slice A4_0 (List.length x0.1) c4_0) := (hb12.cell (by (try simp only [World.size_alloc]); (try dsimp only); omega)).trans ex0_0_11
  have ex0_1_12 : w12.cell? ⟨w4.heap.size, 1, none⟩ = some (.slice A4_1 (List.length x0.2.1) c4_1) := (hb12.cell (by (try simp only [World.size_alloc]); (try dsimp only); omega)).trans ex0_1_11
  have ex0_2_12 : w12.cell? ⟨w4.heap.size, 2, none⟩ = some (.slice A4_2 (List.length x0.2.2.1) c4_2) := (hb12.cell (by (try simp only [World.size_alloc]); (try dsimp only); omega)).trans ex0_2_11
  have ex0_3_12 : w12.cell? ⟨w4.heap.size, 3, none⟩ = some (.slice A4_3 (List.length x0.2.2.2) c4_3) := (hb12.cell (by (try simp only [World.size_alloc]); (try dsimp only); omega)).trans ex0_3_11
  have zx1_12 : w5.heap.size < w12.heap.size := by omega
  have ex1_0_12 : w12.cell? ⟨w5.heap.size, 0, none⟩ = some (.slice A5_0 (List.length x1.1) c5_0) := (hb12.cell (by (try simp only [World.size_alloc]); (try dsimp only); omega)).trans ex1_0_11
  have ex1_1_12 : w12.cell? ⟨w5.heap.size, 1, none⟩ = some (.slice A5_1 (List.length x1.2.1) c5_1) := (hb12.cell (by (try simp only [World.size_alloc]); (try dsimp only); omega)).trans ex1_1_11
  have ex1_2_12 : w12.cell? ⟨w5.heap.size, 2, none⟩ = some (.slice A5_2 (List.length x1.2.2.1) c5_2) := (hb12.cell (by (try simp only [World.size_alloc]); (try dsimp only); omega)).trans ex1_2_11
  have ex1_3_12 : w12.cell? ⟨w5.heap.size, 3, none⟩ = some (.int .i64 x1.2.2.2.1) := (hb12.cell (by (try simp only [World.size_alloc]); (try dsimp only); omega)).trans ex1_3_11
  have ex1_4_12 : w12.cell? ⟨w5.heap.size, 4, none⟩ = some (.int .i64 x1.2.2.2.2) := (hb12.cell (by (try simp only [World.size_alloc]); (try dsimp only); omega)).trans ex1_4_11
  clear ea0_0_11 ea0_1_11 ea0_2_11 ea0_3_11 ea1_0_11 ea1_1_11 ea1_2_11 ea1_3_11 ea1_4_11 ex0_0_11 ex0_1_11 ex0_2_11 ex0_3_11 ex1_0_11 ex1_1_11 ex1_2_11 ex1_3_11 ex1_4_11
  go_wp2_with fail
  refine (C_laws_markNameS _ _ (f0_TrustChain x0 x1 a2) fp6 (1) (Ty.ow_bel (by repeat' (first | (with_reducible exact Below.refl _ _) | (with_reducible assumption) | (with_reducible refine bel_set ?_ (by (try dsimp only); omega) _) | (with_reducible refine bel_alloc ?_ _) | (with_reducible refine bel_drewN ?_ _) | (with_reducible refine bel_drew ?_))) howG0_11) frG0.1 (by omega) (by omega)).mono ?_
  rintro e w13 ⟨rfl, hm13, hk13⟩
  have zz13 : w12.heap.size ≤ w13.heap.size := hk13.size
  have szl13 : w.heap.size ≤ w5.heap.size := vw_5.size
  have vw_13 : Below w.heap.size w w13 := vw_12.trans (hk13.below vw_12.size (fun y hy => by have := frG0.2 y hy; omega))
  have howW0_13 : Ty.ow w13 (.sl (.sl .str)) [.slice A3_ (List.length (f0_TrustChain x0 x1 a2)) c3_] (f0_TrustChain x0 x1 a2) fp3 := Ty.ow_keep (fun y hy => (hk13.block y (Nat.lt_of_lt_of_le (Ty.ow_lt howW0_11 y hy) vW0_12.size) (fun hy2 => by have := frW0.2 y hy; have := frG0.2 y hy2; omega)).trans (vW0_12.block y (Ty.ow_lt howW0_11 y hy))) howW0_11
  have vW0_13 : Below w13.heap.size w13 w13 := Below.refl _ _
  have za0_13 : w.heap.size < w13.heap.size := by omega
  have hBa0_13 : w13.heap[w.heap.size]? = w12.heap[w.heap.size]? := hk13.block _ za0_12 (fun hy => by have := frG0.2 _ hy; omega)
  have ea0_0_13 : w13.cell? ⟨w.heap.size, 0, none⟩ = some (.slice A00 (List.length x0.1) c00) := (cell_of_heap hBa0_13 0).trans ea0_0_12
  have ea0_1_13 : w13.cell? ⟨w.heap.size, 1, none⟩ = some (.slice A01 (List.length x0.2.1) c01) := (cell_of_heap hBa0_13 1).trans ea0_1_12
  have ea0_2_13 : w13.cell? ⟨w.heap.size, 2, none⟩ = some (.slice A02 (List.length x0.2.2.1) c02) := (cell_of_heap hBa0_13 2).trans ea0_2_12
  have ea0_3_13 : w13.cell? ⟨w.heap.size, 3, none⟩ = some (.slice A03 (List.length x0.2.2.2) c03) := (cell_of_heap hBa0_13 3).trans ea0_3_12
  have za1_13 : w.heap.size + 1 < w13.heap.size := by omega
  have hBa1_13 : w13.heap[w.heap.size + 1]? = w12.heap[w.heap.size + 1]? := hk13.block _ za1_12 (fun hy => by have := frG0.2 _ hy; omega)
  have ea1_0_13 : w13.cell? ⟨w.heap.size + 1, 0, none⟩ = some (.slice A10 (List.length x1.1) c10) := (cell_of_heap hBa1_13 0).trans ea1_0_12
  have ea1_1_13 : w13.cell? ⟨w.heap.size + 1, 1, none⟩ = some (.slice A11 (List.length x1.2.1) c11) := (cell_of_heap hBa1_13 1).trans ea1_1_12
  have ea1_2_13 : w13.cell? ⟨w.heap.size + 1, 2, none⟩ = some (.slice A12 (List.length x1.2.2.1) c12) := (cell_of_heap hBa1_13 2).trans ea1_2_12
  have ea1_3_13 : w13.cell? ⟨w.heap.size + 1, 3, none⟩ = some (.int .i64 x1.2.2.2.1) := (cell_of_heap hBa1_13 3).trans ea1_3_12
  have ea1_4_13 : w13.cell? ⟨w.heap.size + 1, 4, none⟩ = some (.int .i64 x1.2.2.2.2) := (cell_of_heap hBa1_13 4).trans ea1_4_12
  have zx0_13 : w4.heap.size < w13.heap.size := by omega
  have hBx0_13 : w13.heap[w4.heap.size]? = w12.heap[w4.heap.size]? := hk13.block _ zx0_12 (fun hy => by have := frG0.2 _ hy; omega)
  have ex0_0_13 : w13.cell? ⟨w4.heap.size, 0, none⟩ = some (.slice A4_0 (List.length x0.1) c4_0) := (cell_of_heap hBx0_13 0).trans ex0_0_12
  have ex0_1_13 : w13.cell? ⟨w4.heap.size, 1, none⟩ = some (.slice A4_1 (List.length x0.2.1) c4_1) := (cell_of_heap hBx0_13 1).trans ex0_1_12
  have ex0_2_13 : w13.cell? ⟨w4.heap.size, 2, none⟩ = some (.slice A4_2 (List.length x0.2.2.1) c4_2) := (cell_of_heap hBx0_13 2).trans ex0_2_12
  have ex0_3_13 : w13.cell? ⟨w4.heap.size, 3, none⟩ = some (.slice A4_3 (List.length x0.2.2.2) c4_3) := (cell_of_heap hBx0_13 3).trans ex0_3_12
  have zx1_13 : w5.heap.size < w13.heap.size := by omega
  have hBx1_13 : w13.heap[w5.heap.size]? = w12.heap[w5.heap.size]? := hk13.block _ zx1_12 (fun hy => by have := frG0.2 _ hy; omega)
  have ex1_0_13 : w13.cell? ⟨w5.heap.size, 0, none⟩ = some (.slice A5_0 (List.length x1.1) c5_0) := (cell_of_heap hBx1_13 0).trans ex1_0_12
  have ex1_1_13 : w13.cell? ⟨w5.heap.size, 1, none⟩ = some (.slice A5_1 (List.length x1.2.1) c5_1) := (cell_of_heap hBx1_13 1).trans ex1_1_12
  have ex1_2_13 : w13.cell? ⟨w5.heap.size, 2, none⟩ = some (.slice A5_2 (List.length x1.2.2.1) c5_2) := (cell_of_heap hBx1_13 2).trans ex1_2_12
  have ex1_3_13 : w13.cell? ⟨w5.heap.size, 3, none⟩ = some (.int .i64 x1.2.2.2.1) := (cell_of_heap hBx1_13 3).trans ex1_3_12
  have ex1_4_13 : w13.cell? ⟨w5.heap.size, 4, none⟩ = some (.int .i64 x1.2.2.2.2) := (cell_of_heap hBx1_13 4).trans ex1_4_12
  clear ea0_0_12 ea0_1_12 ea0_2_12 ea0_3_12 ea1_0_12 ea1_1_12 ea1_2_12 ea1_3_12 ea1_4_12 ex0_0_12 ex0_1_12 ex0_2_12 ex0_3_12 ex1_0_12 ex1_1_12 ex1_2_12 ex1_3_12 ex1_4_12
  have frM : FrI (w5.heap.size + 1) w6.heap.size fp6 := frG0
  have vM0_13 : Below w13.heap.size w13 w13 := Below.refl _ _
  have hqm : ((1 + ((Ty.cnt (.sl (.sl .str)) (f0_TrustChain x0 x1 a2) : Nat) : Int) : Int) != 1 + ((Ty.cnt (.sl (.sl .str)) (f0_TrustChain x0 x1 a2) : Nat) : Int)) = false := by simp
  go_wp2_with fail
  refine (C_laws_heldNameS _ _ (f0_TrustChain x0 x1 a2) 1 (Ty.ow_rd (Ty.ow_bel (by repeat' (first | (with_reducible exact Below.refl _ _) | (with_reducible assumption) | (with_reducible refine bel_set ?_ (by (try dsimp only); omega) _) | (with_reducible refine bel_alloc ?_ _) | (with_reducible refine bel_drewN ?_ _) | (with_reducible refine bel_drew ?_))) hm13)) (by omega) (by omega)).mono ?_
  rintro e w14 ⟨rfl, hb14⟩
  have st14 : Below w13.heap.size w13 w14 := bel_trans (by repeat' (first | (with_reducible exact Below.refl _ _) | (with_reducible assumption) | (with_reducible refine bel_set ?_ (by (try dsimp only); omega) _) | (with_reducible refine bel_alloc ?_ _) | (with_reducible refine bel_drewN ?_ _) | (with_reducible refine bel_drew ?_))) hb14
  have zz14 : w13.heap.size + 0 ≤ w14.heap.size := by have := hb14.size; (try simp only [World.size_alloc] at this); omega
  have vw_14 : Below w.heap.size w w14 := bel_trans vw_13 st14
  have vW0_14 : Below w13.heap.size w13 w14 := st14
  have vM0_14 : Below w13.heap.size w13 w14 := st14
  have za0_14 : w.heap.size < w14.heap.size := by omega
  have ea0_0_14 : w14.cell? ⟨w.heap.size, 0, none⟩ = some (.slice A00 (List.length x0.1) c00) := (hb14.cell (by (try simp only [World.size_alloc]); (try dsimp only); omega)).trans ea0_0_13
  have ea0_1_14 : w14.cell? ⟨w.heap.size, 1, none⟩ = some (.slice A01 (List.length x0.2.1) c01) := (hb14.cell (by (try simp only [World.size_alloc]); (try dsimp only); omega)).trans ea0_1_13
  have ea0_2_14 : w14.cell? ⟨w.heap.size, 2, none⟩ = some (.slice A02 (List.length x0.2.2.1) c02) := (hb14.cell (by (try simp only [World.size_alloc]); (try dsimp only); omega)).trans ea0_2_13
  have ea0_3_14 : w14.cell? ⟨w.heap.size, 3, none⟩ = some (.slice A03 (List.length x0.2.2.2) c03) := (hb14.cell (by (try simp only [World.size_alloc]); (try dsimp only); omega)).trans ea0_3_13
  have za1_14 : w.heap.size + 1 < w14.heap.size := by omega
  have ea1_0_14 : w14.cell? ⟨w.heap.size + 1, 0, none⟩ = some (.slice A10 (List.length x1.1) c10) := (hb14.cell (by (try simp only [World.size_alloc]); (try dsimp only); omega)).trans ea1_0_13
  have ea1_1_14 : w14.cell? ⟨w.heap.size + 1, 1, none⟩ = some (.slice A11 (List.length x1.2.1) c11) := (hb14.cell (by (try simp only [World.size_alloc]); (try dsimp only); omega)).trans ea1_1_13
  have ea1_2_14 : w14.cell? ⟨w.heap.size + 1, 2, none⟩ = some (.slice A12 (List.length x1.2.2.1) c12) := (hb14.cell (by (try simp only [World.size_alloc]); (try dsimp only); omega)).trans ea1_2_13
  have ea1_3_14 : w14.cell? ⟨w.heap.size + 1, 3, none⟩ = some (.int .i64 x1.2.2.2.1) := (hb14.cell (by (try simp only [World.size_alloc]); (try dsimp only); omega)).trans ea1_3_13
  have ea1_4_14 : w14.cell? ⟨w.heap.size + 1, 4, none⟩ = some (.int .i64 x1.2.2.2.2) := (hb14.cell (by (try simp only [World.size_alloc]); (try dsimp only); omega)).trans ea1_4_13
  have zx0_14 : w4.heap.size < w14.heap.size := by omega
  have ex0_0_14 : w14.cell? ⟨w4.heap.size, 0, none⟩ = some (.slice A4_0 (List.length x0.1) c4_0) := (hb14.cell (by (try simp only [World.size_alloc]); (try dsimp only); omega)).trans ex0_0_13
  have ex0_1_14 : w14.cell? ⟨w4.heap.size, 1, none⟩ = some (.slice A4_1 (List.length x0.2.1) c4_1) := (hb14.cell (by (try simp only [World.size_alloc]); (try dsimp only); omega)).trans ex0_1_13
  have ex0_2_14 : w14.cell? ⟨w4.heap.size, 2, none⟩ = some (.slice A4_2 (List.length x0.2.2.1) c4_2) := (hb14.cell (by (try simp only [World.size_alloc]); (try dsimp only); omega)).trans ex0_2_13
  have ex0_3_14 : w14.cell? ⟨w4.heap.size, 3, none⟩ = some (.slice A4_3 (List.length x0.2.2.2) c4_3) := (hb14.cell (by (try simp only [World.size_alloc]); (try dsimp only); omega)).trans ex0_3_13
  have zx1_14 : w5.heap.size < w14.heap.size := by omega
  have ex1_0_14 : w14.cell? ⟨w5.heap.size, 0, none⟩ = some (.slice A5_0 (List.length x1.1) c5_0) := (hb14.cell (by (try simp only [World.size_alloc]); (try dsimp only); omega)).trans ex1_0_13
  have ex1_1_14 : w14.cell? ⟨w5.heap.size, 1, none⟩ = some (.slice A5_1 (List.length x1.2.1) c5_1) := (hb14.cell (by (try simp only [World.size_alloc]); (try dsimp only); omega)).trans ex1_1_13
  have ex1_2_14 : w14.cell? ⟨w5.heap.size, 2, none⟩ = some (.slice A5_2 (List.length x1.2.2.1) c5_2) := (hb14.cell (by (try simp only [World.size_alloc]); (try dsimp only); omega)).trans ex1_2_13
  have ex1_3_14 : w14.cell? ⟨w5.heap.size, 3, none⟩ = some (.int .i64 x1.2.2.2.1) := (hb14.cell (by (try simp only [World.size_alloc]); (try dsimp only); omega)).trans ex1_3_13
  have ex1_4_14 : w14.cell? ⟨w5.heap.size, 4, none⟩ = some (.int .i64 x1.2.2.2.2) := (hb14.cell (by (try simp only [World.size_alloc]); (try dsimp only); omega)).trans ex1_4_13
  clear ea0_0_13 ea0_1_13 ea0_2_13 ea0_3_13 ea1_0_13 ea1_1_13 ea1_2_13 ea1_3_13 ea1_4_13 ex0_0_13 ex0_1_13 ex0_2_13 ex0_3_13 ex1_0_13 ex1_1_13 ex1_2_13 ex1_3_13 ex1_4_13
  have HSr : Hid (∀ W, Below w14.heap.size w14 W → Below w14.heap.size w14 W ∧ W.cell? ⟨w.heap.size, 0, none⟩ = some (.slice A00 (List.length x0.1) c00) ∧ W.cell? ⟨w.heap.size, 1, none⟩ = some (.slice A01 (List.length x0.2.1) c01) ∧ W.cell? ⟨w.heap.size, 2, none⟩ = some (.slice A02 (List.length x0.2.2.1) c02) ∧ W.cell? ⟨w.heap.size, 3, none⟩ = some (.slice A03 (List.length x0.2.2.2) c03) ∧ W.cell? ⟨w.heap.size + 1, 0, none⟩ = some (.slice A10 (List.length x1.1) c10) ∧ W.cell? ⟨w.heap.size + 1, 1, none⟩ = some (.slice A11 (List.length x1.2.1) c11) ∧ W.cell? ⟨w.heap.size + 1, 2, none⟩ = some (.slice A12 (List.length x1.2.2.1) c12) ∧ W.cell? ⟨w.heap.size + 1, 3, none⟩ = some (.int .i64 x1.2.2.2.1) ∧ W.cell? ⟨w.heap.size + 1, 4, none⟩ = some (.int .i64 x1.2.2.2.2) ∧ W.cell? ⟨w4.heap.size, 0, none⟩ = some (.slice A4_0 (List.length x0.1) c4_0) ∧ W.cell? ⟨w4.heap.size, 1, none⟩ = some (.slice A4_1 (List.length x0.2.1) c4_1) ∧ W.cell? ⟨w4.heap.size, 2, none⟩ = some (.slice A4_2 (List.length x0.2.2.1) c4_2) ∧ W.cell? ⟨w4.heap.size, 3, none⟩ = some (.slice A4_3 (List.length x0.2.2.2) c4_3) ∧ W.cell? ⟨w5.heap.size, 0, none⟩ = some (.slice A5_0 (List.length x1.1) c5_0) ∧ W.cell? ⟨w5.heap.size, 1, none⟩ = some (.slice A5_1 (List.length x1.2.1) c5_1) ∧ W.cell? ⟨w5.heap.size, 2, none⟩ = some (.slice A5_2 (List.length x1.2.2.1) c5_2) ∧ W.cell? ⟨w5.heap.size, 3, none⟩ = some (.int .i64 x1.2.2.2.1) ∧ W.cell? ⟨w5.heap.size, 4, none⟩ = some (.int .i64 x1.2.2.2.2)) := fun W hW => ⟨hW, (hW.cell za0_14).trans ea0_0_14, (hW.cell za0_14).trans ea0_1_14, (hW.cell za0_14).trans ea0_2_14, (hW.cell za0_14).trans ea0_3_14, (hW.cell za1_14).trans ea1_0_14, (hW.cell za1_14).trans ea1_1_14, (hW.cell za1_14).trans ea1_2_14, (hW.cell za1_14).trans ea1_3_14, (hW.cell za1_14).trans ea1_4_14, (hW.cell zx0_14).trans ex0_0_14, (hW.cell zx0_14).trans ex0_1_14, (hW.cell zx0_14).trans ex0_2_14, (hW.cell zx0_14).trans ex0_3_14, (hW.cell zx1_14).trans ex1_0_14, (hW.cell zx1_14).trans ex1_1_14, (hW.cell zx1_14).trans ex1_2_14, (hW.cell zx1_14).trans ex1_3_14, (hW.cell zx1_14).trans ex1_4_14⟩
  have hvr : Below w14.heap.size w14 w14 := Below.refl _ _
  go_wp2_with fail
  go_region_held3 (fun W => Below w14.heap.size w14 W ∧ W.cell? ⟨w.heap.size, 0, none⟩ = some (.slice A00 (List.length x0.1) c00) ∧ W.cell? ⟨w.heap.size, 1, none⟩ = some (.slice A01 (List.length x0.2.1) c01) ∧ W.cell? ⟨w.heap.size, 2, none⟩ = some (.slice A02 (List.length x0.2.2.1) c02) ∧ W.cell? ⟨w.heap.size, 3, none⟩ = some (.slice A03 (List.length x0.2.2.2) c03) ∧ W.cell? ⟨w.heap.size + 1, 0, none⟩ = some (.slice A10 (List.length x1.1) c10) ∧ W.cell? ⟨w.heap.size + 1, 1, none⟩ = some (.slice A11 (List.length x1.2.1) c11) ∧ W.cell? ⟨w.heap.size + 1, 2, none⟩ = some (.slice A12 (List.length x1.2.2.1) c12) ∧ W.cell? ⟨w.heap.size + 1, 3, none⟩ = some (.int .i64 x1.2.2.2.1) ∧ W.cell? ⟨w.heap.size + 1, 4, none⟩ = some (.int .i64 x1.2.2.2.2) ∧ W.cell? ⟨w4.heap.size, 0, none⟩ = some (.slice A4_0 (List.length x0.1) c4_0) ∧ W.cell? ⟨w4.heap.size, 1, none⟩ = some (.slice A4_1 (List.length x0.2.1) c4_1) ∧ W.cell? ⟨w4.heap.size, 2, none⟩ = some (.slice A4_2 (List.length x0.2.2.1) c4_2) ∧ W.cell? ⟨w4.heap.size, 3, none⟩ = some (.slice A4_3 (List.length x0.2.2.2) c4_3) ∧ W.cell? ⟨w5.heap.size, 0, none⟩ = some (.slice A5_0 (List.length x1.1) c5_0) ∧ W.cell? ⟨w5.heap.size, 1, none⟩ = some (.slice A5_1 (List.length x1.2.1) c5_1) ∧ W.cell? ⟨w5.heap.size, 2, none⟩ = some (.slice A5_2 (List.length x1.2.2.1) c5_2) ∧ W.cell? ⟨w5.heap.size, 3, none⟩ = some (.int .i64 x1.2.2.2.1) ∧ W.cell? ⟨w5.heap.size, 4, none⟩ = some (.int .i64 x1.2.2.2.2)) (exact HSr.out _ (by repeat' (first | (with_reducible exact Below.refl _ _) | (with_reducible assumption) | (with_reducible refine bel_set ?_ (by (try dsimp only); omega) _) | (with_reducible refine bel_alloc ?_ _) | (with_reducible refine bel_drewN ?_ _) | (with_reducible refine bel_drew ?_))))
    (first
      | (go_at_call 7; (with_reducible refine (C_laws_toTrustPolicy _ _ x0 (Ty.rd_below (by repeat' (first | (with_reducible exact Below.refl _ _) | (with_reducible assumption) | (with_reducible refine bel_set ?_ (by (try dsimp only); omega) _) | (with_reducible refine bel_alloc ?_ _) | (with_reducible refine bel_drewN ?_ _) | (with_reducible refine bel_drew ?_))) h0) s0).mono ?_); rintro e wr0 ⟨csr0, fpr0, rfl, howr0, hfrr0, hbr0⟩; have hvr0 : Below w14.heap.size w14 wr0 := bel_trans (by repeat' (first | (with_reducible exact Below.refl _ _) | (with_reducible assumption) | (with_reducible refine bel_set ?_ (by (try dsimp only); omega) _) | (with_reducible refine bel_alloc ?_ _) | (with_reducible refine bel_drewN ?_ _) | (with_reducible refine bel_drew ?_))) hbr0; have vwr0 : Below w.heap.size w wr0 := bel_trans (by repeat' (first | (with_reducible exact Below.refl _ _) | (with_reducible assumption) | (with_reducible refine bel_set ?_ (by (try dsimp only); omega) _) | (with_reducible refine bel_alloc ?_ _) | (with_reducible refine bel_drewN ?_ _) | (with_reducible refine bel_drew ?_))) hbr0)
      | (go_at_call 8; (with_reducible refine (C_laws_toData _ _ x1 (Ty.rd_below (by repeat' (first | (with_reducible exact Below.refl _ _) | (with_reducible assumption) | (with_reducible refine bel_set ?_ (by (try dsimp only); omega) _) | (with_reducible refine bel_alloc ?_ _) | (with_reducible refine bel_drewN ?_ _) | (with_reducible refine bel_drew ?_))) h1) s1).mono ?_); rintro e wr1 ⟨csr1, fpr1, rfl, howr1, hfrr1, hbr1⟩; have hvr1 : Below w14.heap.size w14 wr1 := bel_trans (by repeat' (first | (with_reducible exact Below.refl _ _) | (with_reducible assumption) | (with_reducible refine bel_set ?_ (by (try dsimp only); omega) _) | (with_reducible refine bel_alloc ?_ _) | (with_reducible refine bel_drewN ?_ _) | (with_reducible refine bel_drew ?_))) hbr1; have vwr1 : Below w.heap.size w wr1 := bel_trans (by repeat' (first | (with_reducible exact Below.refl _ _) | (with_reducible assumption) | (with_reducible refine bel_set ?_ (by (try dsimp only); omega) _) | (with_reducible refine bel_alloc ?_ _) | (with_reducible refine bel_drewN ?_ _) | (with_reducible refine bel_drew ?_))) hbr1; have yr0_r1 : Below wr0.heap.size wr0 wr1 := bel_trans (by repeat' (first | (with_reducible exact Below.refl _ _) | (with_reducible assumption) | (with_reducible refine bel_set ?_ (by (try dsimp only); omega) _) | (with_reducible refine bel_alloc ?_ _) | (with_reducible refine bel_drewN ?_ _) | (with_reducible refine bel_drew ?_))) hbr1)
      | (go_at_call 9; (with_reducible refine (C_impl_TrustChain _ _ x0 _ x1 a2 (Ty.rd_below (by repeat' (first | (with_reducible exact Below.refl _ _) | (with_reducible assumption) | (with_reducible refine bel_set ?_ (by (try dsimp only); omega) _) | (with_reducible refine bel_alloc ?_ _) | (with_reducible refine bel_drewN ?_ _) | (with_reducible refine bel_drew ?_))) (Ty.ow_rd howr0)) (Ty.rd_below (by repeat' (first | (with_reducible exact Below.refl _ _) | (with_reducible assumption) | (with_reducible refine bel_set ?_ (by (try dsimp only); omega) _) | (with_reducible refine bel_alloc ?_ _) | (with_reducible refine bel_drewN ?_ _) | (with_reducible refine bel_drew ?_))) (Ty.ow_rd howr1)) s0 s1 i2).mono ?_); rintro e w15 ⟨A15_, c15_, fp15, rfl, how15, hfr15, hb15⟩; have hvrz : Below w14.heap.size w14 w15 := bel_trans (by repeat' (first | (with_reducible exact Below.refl _ _) | (with_reducible assumption) | (with_reducible refine bel_set ?_ (by (try dsimp only); omega) _) | (with_reducible refine bel_alloc ?_ _) | (with_reducible refine bel_drewN ?_ _) | (with_reducible refine bel_drew ?_))) hb15))
  have st15 : Below w14.heap.size w14 w15 := hvrz
  have zz15 : w14.heap.size ≤ w15.heap.size := st15.size
  have vw_15 : Below w.heap.size w w15 := bel_trans vw_14 st15
  have vW0_15 : Below w13.heap.size w13 w15 := bel_trans vW0_14 st15
  have vM0_15 : Below w13.heap.size w13 w15 := bel_trans vM0_14 st15
  have za0_15 : w.heap.size < w15.heap.size := by omega
  have ea0_0_15 : w15.cell? ⟨w.heap.size, 0, none⟩ = some (.slice A00 (List.length x0.1) c00) := (st15.cell za0_14).trans ea0_0_14
  have ea0_1_15 : w15.cell? ⟨w.heap.size, 1, none⟩ = some (.slice A01 (List.length x0.2.1) c01) := (st15.cell za0_14).trans ea0_1_14
  have ea0_2_15 : w15.cell? ⟨w.heap.size, 2, none⟩ = some (.slice A02 (List.length x0.2.2.1) c02) := (st15.cell za0_14).trans ea0_2_14
  have ea0_3_15 : w15.cell? ⟨w.heap.size, 3, none⟩ = some (.slice A03 (List.length x0.2.2.2) c03) := (st15.cell za0_14).trans ea0_3_14
  have za1_15 : w.heap.size + 1 < w15.heap.size := by omega
  have ea1_0_15 : w15.cell? ⟨w.heap.size + 1, 0, none⟩ = some (.slice A10 (List.length x1.1) c10) := (st15.cell za1_14).trans ea1_0_14
  have ea1_1_15 : w15.cell? ⟨w.heap.size + 1, 1, none⟩ = some (.slice A11 (List.length x1.2.1) c11) := (st15.cell za1_14).trans ea1_1_14
  have ea1_2_15 : w15.cell? ⟨w.heap.size + 1, 2, none⟩ = some (.slice A12 (List.length x1.2.2.1) c12) := (st15.cell za1_14).trans ea1_2_14
  have ea1_3_15 : w15.cell? ⟨w.heap.size + 1, 3, none⟩ = some (.int .i64 x1.2.2.2.1) := (st15.cell za1_14).trans ea1_3_14
  have ea1_4_15 : w15.cell? ⟨w.heap.size + 1, 4, none⟩ = some (.int .i64 x1.2.2.2.2) := (st15.cell za1_14).trans ea1_4_14
  have zx0_15 : w4.heap.size < w15.heap.size := by omega
  have ex0_0_15 : w15.cell? ⟨w4.heap.size, 0, none⟩ = some (.slice A4_0 (List.length x0.1) c4_0) := (st15.cell zx0_14).trans ex0_0_14
  have ex0_1_15 : w15.cell? ⟨w4.heap.size, 1, none⟩ = some (.slice A4_1 (List.length x0.2.1) c4_1) := (st15.cell zx0_14).trans ex0_1_14
  have ex0_2_15 : w15.cell? ⟨w4.heap.size, 2, none⟩ = some (.slice A4_2 (List.length x0.2.2.1) c4_2) := (st15.cell zx0_14).trans ex0_2_14
  have ex0_3_15 : w15.cell? ⟨w4.heap.size, 3, none⟩ = some (.slice A4_3 (List.length x0.2.2.2) c4_3) := (st15.cell zx0_14).trans ex0_3_14
  have zx1_15 : w5.heap.size < w15.heap.size := by omega
  have ex1_0_15 : w15.cell? ⟨w5.heap.size, 0, none⟩ = some (.slice A5_0 (List.length x1.1) c5_0) := (st15.cell zx1_14).trans ex1_0_14
  have ex1_1_15 : w15.cell? ⟨w5.heap.size, 1, none⟩ = some (.slice A5_1 (List.length x1.2.1) c5_1) := (st15.cell zx1_14).trans ex1_1_14
  have ex1_2_15 : w15.cell? ⟨w5.heap.size, 2, none⟩ = some (.slice A5_2 (List.length x1.2.2.1) c5_2) := (st15.cell zx1_14).trans ex1_2_14
  have ex1_3_15 : w15.cell? ⟨w5.heap.size, 3, none⟩ = some (.int .i64 x1.2.2.2.1) := (st15.cell zx1_14).trans ex1_3_14
  have ex1_4_15 : w15.cell? ⟨w5.heap.size, 4, none⟩ = some (.int .i64 x1.2.2.2.2) := (st15.cell zx1_14).trans ex1_4_14
  clear ea0_0_14 ea0_1_14 ea0_2_14 ea0_3_14 ea1_0_14 ea1_1_14 ea1_2_14 ea1_3_14 ea1_4_14 ex0_0_14 ex0_1_14 ex0_2_14 ex0_3_14 ex1_0_14 ex1_1_14 ex1_2_14 ex1_3_14 ex1_4_14
  have hfr15 := hfr15.mono (Nat.le_trans hvr1.size (Nat.le_refl _)) (Nat.le_refl _)
  have frH0 : FrI (w14.heap.size + 0) w15.heap.size fp15 := hfr15.mono (by (try simp only [World.size_alloc]); omega) (Nat.le_refl _)
  have vH0_15 : Below w15.heap.size w15 w15 := Below.refl _ _
  go_wp2_with fail
  refine (C_laws_eqNameS _ _ _ (f0_TrustChain x0 x1 a2) (Ty.ow_rd (Ty.ow_bel (by repeat' (first | (with_reducible exact Below.refl _ _) | (with_reducible assumption) | (with_reducible refine bel_set ?_ (by (try dsimp only); omega) _) | (with_reducible refine bel_alloc ?_ _) | (with_reducible refine bel_drewN ?_ _) | (with_reducible refine bel_drew ?_))) how15)) (Ty.ow_rd (Ty.ow_bel (by repeat' (first | (with_reducible exact Below.refl _ _) | (with_reducible assumption) | (with_reducible refine bel_set ?_ (by (try dsimp only); omega) _) | (with_reducible refine bel_alloc ?_ _) | (with_reducible refine bel_drewN ?_ _) | (with_reducible refine bel_drew ?_))) howW0_13))).mono ?_
  rintro e w16 ⟨rfl, hb16⟩
  have st16 : Below w15.heap.size w15 w16 := bel_trans (by repeat' (first | (with_reducible exact Below.refl _ _) | (with_reducible assumption) | (with_reducible refine bel_set ?_ (by (try dsimp only); omega) _) | (with_reducible refine bel_alloc ?_ _) | (with_reducible refine bel_drewN ?_ _) | (with_reducible refine bel_drew ?_))) hb16
  have zz16 : w15.heap.size + 0 ≤ w16.heap.size := by have := hb16.size; (try simp only [World.size_alloc] at this); omega
  have vw_16 : Below w.heap.size w w16 := bel_trans vw_15 st16
  have vW0_16 : Below w13.heap.size w13 w16 := bel_trans vW0_15 st16
  have vM0_16 : Below w13.heap.size w13 w16 := bel_trans vM0_15 st16
  have vH0_16 : Below w15.heap.size w15 w16 := st16
  have za0_16 : w.heap.size < w16.heap.size := by omega
  have ea0_0_16 : w16.cell? ⟨w.heap.size, 0, none⟩ = some (.slice A00 (List.length x0.1) c00) := (hb16.cell (by (try simp only [World.size_alloc]); (try dsimp only); omega)).trans ea0_0_15
  have ea0_1_16 : w16.cell? ⟨w.heap.size, 1, none⟩ = some (.slice A01 (List.length x0.2.1) c01) := (hb16.cell (by (try simp only [World.size_alloc]); (try dsimp only); omega)).trans ea0_1_15
  have ea0_2_16 : w16.cell? ⟨w.heap.size, 2, none⟩ = some (.slice A02 (List.length x0.2.2.1) c02) := (hb16.cell (by (try simp only [World.size_alloc]); (try dsimp only); omega)).trans ea0_2_15
  have ea0_3_16 : w16.cell? ⟨w.heap.size, 3, none⟩ = some (.slice A03 (List.length x0.2.2.2) c03) := (hb16.cell (by (try simp only [World.size_alloc]); (try dsimp only); omega)).trans ea0_3_15
  have za1_16 : w.heap.size + 1 < w16.heap.size := by omega
  have ea1_0_16 : w16.cell? ⟨w.heap.size + 1, 0, none⟩ = some (.slice A10 (List.length x1.1) c10) := (hb16.cell (by (try simp only [World.size_alloc]); (try dsimp only); omega)).trans ea1_0_15
  have ea1_1_16 : w16.cell? ⟨w.heap.size + 1, 1, none⟩ = some (.slice A11 (List.length x1.2.1) c11) := (hb16.cell (by (try simp only [World.size_alloc]); (try dsimp only); omega)).trans ea1_1_15
  have ea1_2_16 : w16.cell? ⟨w.heap.size + 1, 2, none⟩ = some (.slice A12 (List.length x1.2.2.1) c12) := (hb16.cell (by (try simp only [World.size_alloc]); (try dsimp only); omega)).trans ea1_2_15
  have ea1_3_16 : w16.cell? ⟨w.heap.size + 1, 3, none⟩ = some (.int .i64 x1.2.2.2.1) := (hb16.cell (by (try simp only [World.size_alloc]); (try dsimp only); omega)).trans ea1_3_15
  have ea1_4_16 : w16.cell? ⟨w.heap.size + 1, 4, none⟩ = some (.int .i64 x1.2.2.2.2) := (hb16.cell (by (try simp only [World.size_alloc]); (try dsimp only); omega)).trans ea1_4_15
  have zx0_16 : w4.heap.size < w16.heap.size := by omega
  have ex0_0_16 : w16.cell? ⟨w4.heap.size, 0, none⟩ = some (.slice A4_0 (List.length x0.1) c4_0) := (hb16.cell (by (try simp only [World.size_alloc]); (try dsimp only); omega)).trans ex0_0_15
  have ex0_1_16 : w16.cell? ⟨w4.heap.size, 1, none⟩ = some (.slice A4_1 (List.length x0.2.1) c4_1) := (hb16.cell (by (try simp only [World.size_alloc]); (try dsimp only); omega)).trans ex0_1_15
  have ex0_2_16 : w16.cell? ⟨w4.heap.size, 2, none⟩ = some (.slice A4_2 (List.length x0.2.2.1) c4_2) := (hb16.cell (by (try simp only [World.size_alloc]); (try dsimp only); omega)).trans ex0_2_15
  have ex0_3_16 : w16.cell? ⟨w4.heap.size, 3, none⟩ = some (.slice A4_3 (List.length x0.2.2.2) c4_3) := (hb16.cell (by (try simp only [World.size_alloc]); (try dsimp only); omega)).trans ex0_3_15
  have zx1_16 : w5.heap.size < w16.heap.size := by omega
  have ex1_0_16 : w16.cell? ⟨w5.heap.size, 0, none⟩ = some (.slice A5_0 (List.length x1.1) c5_0) := (hb16.cell (by (try simp only [World.size_alloc]); (try dsimp only); omega)).trans ex1_0_15
  have ex1_1_16 : w16.cell? ⟨w5.heap.size, 1, none⟩ = some (.slice A5_1 (List.length x1.2.1) c5_1) := (hb16.cell (by (try simp only [World.size_alloc]); (try dsimp only); omega)).trans ex1_1_15
  have ex1_2_16 : w16.cell? ⟨w5.heap.size, 2, none⟩ = some (.slice A5_2 (List.length x1.2.2.1) c5_2) := (hb16.cell (by (try simp only [World.size_alloc]); (try dsimp only); omega)).trans ex1_2_15
  have ex1_3_16 : w16.cell? ⟨w5.heap.size, 3, none⟩ = some (.int .i64 x1.2.2.2.1) := (hb16.cell (by (try simp only [World.size_alloc]); (try dsimp only); omega)).trans ex1_3_15
  have ex1_4_16 : w16.cell? ⟨w5.heap.size, 4, none⟩ = some (.int .i64 x1.2.2.2.2) := (hb16.cell (by (try simp only [World.size_alloc]); (try dsimp only); omega)).trans ex1_4_15
  clear ea0_0_15 ea0_1_15 ea0_2_15 ea0_3_15 ea1_0_15 ea1_1_15 ea1_2_15 ea1_3_15 ea1_4_15 ex0_0_15 ex0_1_15 ex0_2_15 ex0_3_15 ex1_0_15 ex1_1_15 ex1_2_15 ex1_3_15 ex1_4_15
  go_wp2_with fail
  refine (C_laws_heldNameS _ _ (f0_TrustChain x0 x1 a2) 1 (Ty.ow_rd (Ty.ow_bel (by repeat' (first | (with_reducible exact Below.refl _ _) | (with_reducible assumption) | (with_reducible refine bel_set ?_ (by (try dsimp only); omega) _) | (with_reducible refine bel_alloc ?_ _) | (with_reducible refine bel_drewN ?_ _) | (with_reducible refine bel_drew ?_))) hm13)) (by omega) (by omega)).mono ?_
  rintro e w17 ⟨rfl, hb17⟩
  have st17 : Below w16.heap.size w16 w17 := bel_trans (by repeat' (first | (with_reducible exact Below.refl _ _) | (with_reducible assumption) | (with_reducible refine bel_set ?_ (by (try dsimp only); omega) _) | (with_reducible refine bel_alloc ?_ _) | (with_reducible refine bel_drewN ?_ _) | (with_reducible refine bel_drew ?_))) hb17
  have zz17 : w16.heap.size + 0 ≤ w17.heap.size := by have := hb17.size; (try simp only [World.size_alloc] at this); omega
  have vw_17 : Below w.heap.size w w17 := bel_trans vw_16 st17
  have vW0_17 : Below w13.heap.size w13 w17 := bel_trans vW0_16 st17
  have vM0_17 : Below w13.heap.size w13 w17 := bel_trans vM0_16 st17
  have vH0_17 : Below w15.heap.size w15 w17 := bel_trans vH0_16 st17
  have za0_17 : w.heap.size < w17.heap.size := by omega
  have ea0_0_17 : w17.cell? ⟨w.heap.size, 0, none⟩ = some (.slice A00 (List.length x0.1) c00) := (hb17.cell (by (try simp only [World.size_alloc]); (try dsimp only); omega)).trans ea0_0_16
  have ea0_1_17 : w17.cell? ⟨w.heap.size, 1, none⟩ = some (.slice A01 (List.length x0.2.1) c01) := (hb17.cell (by (try simp only [World.size_alloc]); (try dsimp only); omega)).trans ea0_1_16
  have ea0_2_17 : w17.cell? ⟨w.heap.size, 2, none⟩ = some (.slice A02 (List.length x0.2.2.1) c02) := (hb17.cell (by (try simp only [World.size_alloc]); (try dsimp only); omega)).trans ea0_2_16
  have ea0_3_17 : w17.cell? ⟨w.heap.size, 3, none⟩ = some (.slice A03 (List.length x0.2.2.2) c03) := (hb17.cell (by (try simp only [World.size_alloc]); (try dsimp only); omega)).trans ea0_3_16
  have za1_17 : w.heap.size + 1 < w17.heap.size := by omega
  have ea1_0_17 : w17.cell? ⟨w.heap.size + 1, 0, none⟩ = some (.slice A10 (List.length x1.1) c10) := (hb17.cell (by (try simp only [World.size_alloc]); (try dsimp only); omega)).trans ea1_0_16
  have ea1_1_17 : w17.cell? ⟨w.heap.size + 1, 1, none⟩ = some (.slice A11 (List.length x1.2.1) c11) := (hb17.cell (by (try simp only [World.size_alloc]); (try dsimp only); omega)).trans ea1_1_16
  have ea1_2_17 : w17.cell? ⟨w.heap.size + 1, 2, none⟩ = some (.slice A12 (List.length x1.2.2.1) c12) := (hb17.cell (by (try simp only [World.size_alloc]); (try dsimp only); omega)).trans ea1_2_16
  have ea1_3_17 : w17.cell? ⟨w.heap.size + 1, 3, none⟩ = some (.int .i64 x1.2.2.2.1) := (hb17.cell (by (try simp only [World.size_alloc]); (try dsimp only); omega)).trans ea1_3_16
  have ea1_4_17 : w17.cell? ⟨w.heap.size + 1, 4, none⟩ = some (.int .i64 x1.2.2.2.2) := (hb17.cell (by (try simp only [World.size_alloc]); (try dsimp only); omega)).trans ea1_4_16
  have zx0_17 : w4.heap.size < w17.heap.size := by omega
  have ex0_0_17 : w17.cell? ⟨w4.heap.size, 0, none⟩ = some (.slice A4_0 (List.length x0.1) c4_0) := (hb17.cell (by (try simp only [World.size_alloc]); (try dsimp only); omega)).trans ex0_0_16
  have ex0_1_17 : w17.cell? ⟨w4.heap.size, 1, none⟩ = some (.slice A4_1 (List.length x0.2.1) c4_1) := (hb17.cell (by (try simp only [World.size_alloc]); (try dsimp only); omega)).trans ex0_1_16
  have ex0_2_17 : w17.cell? ⟨w4.heap.size, 2, none⟩ = some (.slice A4_2 (List.length x0.2.2.1) c4_2) := (hb17.cell (by (try simp only [World.size_alloc]); (try dsimp only); omega)).trans ex0_2_16
  have ex0_3_17 : w17.cell? ⟨w4.heap.size, 3, none⟩ = some (.slice A4_3 (List.length x0.2.2.2) c4_3) := (hb17.cell (by (try simp only [World.size_alloc]); (try dsimp only); omega)).trans ex0_3_16
  have zx1_17 : w5.heap.size < w17.heap.size := by omega
  have ex1_0_17 : w17.cell? ⟨w5.heap.size, 0, none⟩ = some (.slice A5_0 (List.length x1.1) c5_0) := (hb17.cell (by (try simp only [World.size_alloc]); (try dsimp only); omega)).trans ex1_0_16
  have ex1_1_17 : w17.cell? ⟨w5.heap.size, 1, none⟩ = some (.slice A5_1 (List.length x1.2.1) c5_1) := (hb17.cell (by (try simp only [World.size_alloc]); (try dsimp only); omega)).trans ex1_1_16
  have ex1_2_17 : w17.cell? ⟨w5.heap.size, 2, none⟩ = some (.slice A5_2 (List.length x1.2.2.1) c5_2) := (hb17.cell (by (try simp only [World.size_alloc]); (try dsimp only); omega)).trans ex1_2_16
  have ex1_3_17 : w17.cell? ⟨w5.heap.size, 3, none⟩ = some (.int .i64 x1.2.2.2.1) := (hb17.cell (by (try simp only [World.size_alloc]); (try dsimp only); omega)).trans ex1_3_16
  have ex1_4_17 : w17.cell? ⟨w5.heap.size, 4, none⟩ = some (.int .i64 x1.2.2.2.2) := (hb17.cell (by (try simp only [World.size_alloc]); (try dsimp only); omega)).trans ex1_4_16
  clear ea0_0_16 ea0_1_16 ea0_2_16 ea0_3_16 ea1_0_16 ea1_1_16 ea1_2_16 ea1_3_16 ea1_4_16 ex0_0_16 ex0_1_16 ex0_2_16 ex0_3_16 ex1_0_16 ex1_1_16 ex1_2_16 ex1_3_16 ex1_4_16
  go_wp2_with fail
  go_ret
  exact ⟨rfl, vw_17⟩
end Go.Proofs.YtemicfeiejfdkaaGreat
