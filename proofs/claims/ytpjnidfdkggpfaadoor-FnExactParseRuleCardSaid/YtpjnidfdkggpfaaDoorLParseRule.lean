/- The law FnExactParseRule, walked out of the contracts. Printed by a program. -/
import Derived.Test.YtpjnidfdkggpfaaDoorPrl
import Derived.Deep.RegionHeld3
namespace Go.Proofs.YtpjnidfdkggpfaaDoor
open Go.RowKit
set_option linter.unusedVariables false
set_option linter.unusedSimpArgs false

set_option maxRecDepth 100000 in
set_option maxHeartbeats 4000000 in
theorem L_ParseRule (w : World) (x0 : List UInt8) (l0 : x0.length ≤ 9223372036854775807) (hm : MaxI w) :
    Calls Tryd.prog 4 #[vS x0] w (RetB w true) := by
  go_enter Tryd.func4, Tryd.ntmps4
  by_cases gl0 : List.length x0 ≤ 1048576
  rotate_left
  · go_wp2
    go_ret
    exact ⟨rfl, (by repeat' (first | (with_reducible exact Below.refl _ _) | (with_reducible assumption) | (with_reducible refine bel_set ?_ (by (try dsimp only); omega) _) | (with_reducible refine bel_alloc ?_ _) | (with_reducible refine bel_drewN ?_ _) | (with_reducible refine bel_drew ?_)))⟩
  have s0 : List.length x0 ≤ 1048576 := gl0
  go_wp2_with fail
  refine (S_spec_ParseRule _ x0 s0).mono ?_
  rintro e w1 ⟨cs1_, fp1, rfl, how1, hfr1, hb1⟩
  have st1 : Below w.heap.size w w1 := bel_trans (by repeat' (first | (with_reducible exact Below.refl _ _) | (with_reducible assumption) | (with_reducible refine bel_set ?_ (by (try dsimp only); omega) _) | (with_reducible refine bel_alloc ?_ _) | (with_reducible refine bel_drewN ?_ _) | (with_reducible refine bel_drew ?_))) hb1
  have zz1 : w.heap.size + 0 ≤ w1.heap.size := by have := hb1.size; (try simp only [World.size_alloc] at this); omega
  have vw_1 : Below w.heap.size w w1 := st1
  obtain ⟨A1_0, c1_0, A1_1, c1_1, rfl⟩ := ow_Rule how1
  have frW0 : FrI (w.heap.size + 0) w1.heap.size fp1 := hfr1.mono (by (try simp only [World.size_alloc]); omega) (Nat.le_refl _)
  have vW0_1 : Below w1.heap.size w1 w1 := Below.refl _ _
  go_wp2_with fail
  refine (S_impl_ParseRule _ x0 s0 (maxI_bel (maxI_bel hm vw_1) (by repeat' (first | (with_reducible exact Below.refl _ _) | (with_reducible assumption) | (with_reducible refine bel_set ?_ (by (try dsimp only); omega) _) | (with_reducible refine bel_alloc ?_ _) | (with_reducible refine bel_drewN ?_ _) | (with_reducible refine bel_drew ?_))))).mono ?_
  rintro e w2 ⟨cs2_, fp2, rfl, how2, hfr2, hb2⟩
  have st2 : Below w1.heap.size w1 w2 := bel_trans (by repeat' (first | (with_reducible exact Below.refl _ _) | (with_reducible assumption) | (with_reducible refine bel_set ?_ (by (try dsimp only); omega) _) | (with_reducible refine bel_alloc ?_ _) | (with_reducible refine bel_drewN ?_ _) | (with_reducible refine bel_drew ?_))) hb2
  have zz2 : w1.heap.size + 1 ≤ w2.heap.size := by have := hb2.size; (try simp only [World.size_alloc] at this); omega
  have vw_2 : Below w.heap.size w w2 := bel_trans vw_1 st2
  have vW0_2 : Below w1.heap.size w1 w2 := st2
  have zw0_2 : w1.heap.size < w2.heap.size := by omega
  have ew0_0_2 : w2.cell? ⟨w1.heap.size, 0, none⟩ = some (.slice A1_0 (List.length (f0_ParseRule x0).1) c1_0) := (hb2.cell (by (try simp only [World.size_alloc]); (try dsimp only); omega)).trans ((cell_new w1 37 #[.slice A1_0 (List.length (f0_ParseRule x0).1) c1_0, .slice A1_1 (List.length (f0_ParseRule x0).2) c1_1] 0 (by first | rfl | (simp only [World.size_alloc]))) : _ = some (Value.slice A1_0 (List.length (f0_ParseRule x0).1) c1_0))
  have ew0_1_2 : w2.cell? ⟨w1.heap.size, 1, none⟩ = some (.slice A1_1 (List.length (f0_ParseRule x0).2) c1_1) := (hb2.cell (by (try simp only [World.size_alloc]); (try dsimp only); omega)).trans ((cell_new w1 37 #[.slice A1_0 (List.length (f0_ParseRule x0).1) c1_0, .slice A1_1 (List.length (f0_ParseRule x0).2) c1_1] 1 (by first | rfl | (simp only [World.size_alloc]))) : _ = some (Value.slice A1_1 (List.length (f0_ParseRule x0).2) c1_1))
  obtain ⟨A2_0, c2_0, A2_1, c2_1, rfl⟩ := ow_Rule how2
  have frG0 : FrI (w1.heap.size + 1) w2.heap.size fp2 := hfr2.mono (by (try simp only [World.size_alloc]); omega) (Nat.le_refl _)
  have vG0_2 : Below w2.heap.size w2 w2 := Below.refl _ _
  have hq1 : ((f1_ParseRule x0) != (f1_ParseRule x0)) = false := by simp
  go_wp2_with fail
  refine (C_laws_eqRule _ _ _ (f0_ParseRule x0) (Ty.ow_rd (Ty.ow_bel (by repeat' (first | (with_reducible exact Below.refl _ _) | (with_reducible assumption) | (with_reducible refine bel_set ?_ (by (try dsimp only); omega) _) | (with_reducible refine bel_alloc ?_ _) | (with_reducible refine bel_drewN ?_ _) | (with_reducible refine bel_drew ?_))) how2)) (Ty.ow_rd (Ty.ow_bel (by repeat' (first | (with_reducible exact Below.refl _ _) | (with_reducible assumption) | (with_reducible refine bel_set ?_ (by (try dsimp only); omega) _) | (with_reducible refine bel_alloc ?_ _) | (with_reducible refine bel_drewN ?_ _) | (with_reducible refine bel_drew ?_))) how1))).mono ?_
  rintro e w3 ⟨rfl, hb3⟩
  have st3 : Below w2.heap.size w2 w3 := bel_trans (by repeat' (first | (with_reducible exact Below.refl _ _) | (with_reducible assumption) | (with_reducible refine bel_set ?_ (by (try dsimp only); omega) _) | (with_reducible refine bel_alloc ?_ _) | (with_reducible refine bel_drewN ?_ _) | (with_reducible refine bel_drew ?_))) hb3
  have zz3 : w2.heap.size + 1 ≤ w3.heap.size := by have := hb3.size; (try simp only [World.size_alloc] at this); omega
  have vw_3 : Below w.heap.size w w3 := bel_trans vw_2 st3
  have vW0_3 : Below w1.heap.size w1 w3 := bel_trans vW0_2 st3
  have vG0_3 : Below w2.heap.size w2 w3 := st3
  have zw0_3 : w1.heap.size < w3.heap.size := by omega
  have ew0_0_3 : w3.cell? ⟨w1.heap.size, 0, none⟩ = some (.slice A1_0 (List.length (f0_ParseRule x0).1) c1_0) := (hb3.cell (by (try simp only [World.size_alloc]); (try dsimp only); omega)).trans ((World.cell?_alloc_lt _ _ _ (by (try simp only [World.size_alloc]); (try dsimp only); omega)).trans ew0_0_2)
  have ew0_1_3 : w3.cell? ⟨w1.heap.size, 1, none⟩ = some (.slice A1_1 (List.length (f0_ParseRule x0).2) c1_1) := (hb3.cell (by (try simp only [World.size_alloc]); (try dsimp only); omega)).trans ((World.cell?_alloc_lt _ _ _ (by (try simp only [World.size_alloc]); (try dsimp only); omega)).trans ew0_1_2)
  have zg0_3 : w2.heap.size < w3.heap.size := by omega
  have eg0_0_3 : w3.cell? ⟨w2.heap.size, 0, none⟩ = some (.slice A2_0 (List.length (f0_ParseRule x0).1) c2_0) := (hb3.cell (by (try simp only [World.size_alloc]); (try dsimp only); omega)).trans ((cell_new w2 37 #[.slice A2_0 (List.length (f0_ParseRule x0).1) c2_0, .slice A2_1 (List.length (f0_ParseRule x0).2) c2_1] 0 (by first | rfl | (simp only [World.size_alloc]))) : _ = some (Value.slice A2_0 (List.length (f0_ParseRule x0).1) c2_0))
  have eg0_1_3 : w3.cell? ⟨w2.heap.size, 1, none⟩ = some (.slice A2_1 (List.length (f0_ParseRule x0).2) c2_1) := (hb3.cell (by (try simp only [World.size_alloc]); (try dsimp only); omega)).trans ((cell_new w2 37 #[.slice A2_0 (List.length (f0_ParseRule x0).1) c2_0, .slice A2_1 (List.length (f0_ParseRule x0).2) c2_1] 1 (by first | rfl | (simp only [World.size_alloc]))) : _ = some (Value.slice A2_1 (List.length (f0_ParseRule x0).2) c2_1))
  clear ew0_0_2 ew0_1_2
  have cbG : Ty.cntv tRule (f0_ParseRule x0) ≤ 100000000000 := N_ParseRule s0
  go_wp2_with fail
  refine (C_laws_markRule _ _ (f0_ParseRule x0) fp2 (1) (Ty.ow_bel (by repeat' (first | (with_reducible exact Below.refl _ _) | (with_reducible assumption) | (with_reducible refine bel_set ?_ (by (try dsimp only); omega) _) | (with_reducible refine bel_alloc ?_ _) | (with_reducible refine bel_drewN ?_ _) | (with_reducible refine bel_drew ?_))) how2) frG0.1 (by omega) (by omega)).mono ?_
  rintro e w4 ⟨rfl, hm4, hk4⟩
  have zz4 : w3.heap.size ≤ w4.heap.size := hk4.size
  have szl4 : w.heap.size ≤ w1.heap.size := vw_1.size
  have vw_4 : Below w.heap.size w w4 := vw_3.trans (hk4.below vw_3.size (fun y hy => by have := frG0.2 y hy; omega))
  have howW0_4 : Ty.ow w4 tRule [.slice A1_0 (List.length (f0_ParseRule x0).1) c1_0, .slice A1_1 (List.length (f0_ParseRule x0).2) c1_1] (f0_ParseRule x0) fp1 := Ty.ow_keep (fun y hy => (hk4.block y (Nat.lt_of_lt_of_le (Ty.ow_lt how1 y hy) vW0_3.size) (fun hy2 => by have := frW0.2 y hy; have := frG0.2 y hy2; omega)).trans (vW0_3.block y (Ty.ow_lt how1 y hy))) how1
  have vW0_4 : Below w4.heap.size w4 w4 := Below.refl _ _
  have zw0_4 : w1.heap.size < w4.heap.size := by omega
  have hBw0_4 : w4.heap[w1.heap.size]? = w3.heap[w1.heap.size]? := hk4.block _ zw0_3 (fun hy => by have := frG0.2 _ hy; omega)
  have ew0_0_4 : w4.cell? ⟨w1.heap.size, 0, none⟩ = some (.slice A1_0 (List.length (f0_ParseRule x0).1) c1_0) := (cell_of_heap hBw0_4 0).trans ew0_0_3
  have ew0_1_4 : w4.cell? ⟨w1.heap.size, 1, none⟩ = some (.slice A1_1 (List.length (f0_ParseRule x0).2) c1_1) := (cell_of_heap hBw0_4 1).trans ew0_1_3
  have zg0_4 : w2.heap.size < w4.heap.size := by omega
  have hBg0_4 : w4.heap[w2.heap.size]? = w3.heap[w2.heap.size]? := hk4.block _ zg0_3 (fun hy => by have := frG0.2 _ hy; omega)
  have eg0_0_4 : w4.cell? ⟨w2.heap.size, 0, none⟩ = some (.slice A2_0 (List.length (f0_ParseRule x0).1) c2_0) := (cell_of_heap hBg0_4 0).trans eg0_0_3
  have eg0_1_4 : w4.cell? ⟨w2.heap.size, 1, none⟩ = some (.slice A2_1 (List.length (f0_ParseRule x0).2) c2_1) := (cell_of_heap hBg0_4 1).trans eg0_1_3
  clear ew0_0_3 ew0_1_3 eg0_0_3 eg0_1_3
  have frM : FrI (w1.heap.size + 1) w2.heap.size fp2 := frG0
  have vM0_4 : Below w4.heap.size w4 w4 := Below.refl _ _
  have hqm : ((1 + ((Ty.cntv tRule (f0_ParseRule x0) : Nat) : Int) : Int) != 1 + ((Ty.cntv tRule (f0_ParseRule x0) : Nat) : Int)) = false := by simp
  go_wp2_with fail
  refine (C_laws_heldRule _ _ (f0_ParseRule x0) 1 (Ty.ow_rd (Ty.ow_bel (by repeat' (first | (with_reducible exact Below.refl _ _) | (with_reducible assumption) | (with_reducible refine bel_set ?_ (by (try dsimp only); omega) _) | (with_reducible refine bel_alloc ?_ _) | (with_reducible refine bel_drewN ?_ _) | (with_reducible refine bel_drew ?_))) hm4)) (by omega) (by omega)).mono ?_
  rintro e w5 ⟨rfl, hb5⟩
  have st5 : Below w4.heap.size w4 w5 := bel_trans (by repeat' (first | (with_reducible exact Below.refl _ _) | (with_reducible assumption) | (with_reducible refine bel_set ?_ (by (try dsimp only); omega) _) | (with_reducible refine bel_alloc ?_ _) | (with_reducible refine bel_drewN ?_ _) | (with_reducible refine bel_drew ?_))) hb5
  have zz5 : w4.heap.size + 0 ≤ w5.heap.size := by have := hb5.size; (try simp only [World.size_alloc] at this); omega
  have vw_5 : Below w.heap.size w w5 := bel_trans vw_4 st5
  have vW0_5 : Below w4.heap.size w4 w5 := st5
  have vM0_5 : Below w4.heap.size w4 w5 := st5
  have zw0_5 : w1.heap.size < w5.heap.size := by omega
  have ew0_0_5 : w5.cell? ⟨w1.heap.size, 0, none⟩ = some (.slice A1_0 (List.length (f0_ParseRule x0).1) c1_0) := (hb5.cell (by (try simp only [World.size_alloc]); (try dsimp only); omega)).trans ew0_0_4
  have ew0_1_5 : w5.cell? ⟨w1.heap.size, 1, none⟩ = some (.slice A1_1 (List.length (f0_ParseRule x0).2) c1_1) := (hb5.cell (by (try simp only [World.size_alloc]); (try dsimp only); omega)).trans ew0_1_4
  have zg0_5 : w2.heap.size < w5.heap.size := by omega
  have eg0_0_5 : w5.cell? ⟨w2.heap.size, 0, none⟩ = some (.slice A2_0 (List.length (f0_ParseRule x0).1) c2_0) := (hb5.cell (by (try simp only [World.size_alloc]); (try dsimp only); omega)).trans eg0_0_4
  have eg0_1_5 : w5.cell? ⟨w2.heap.size, 1, none⟩ = some (.slice A2_1 (List.length (f0_ParseRule x0).2) c2_1) := (hb5.cell (by (try simp only [World.size_alloc]); (try dsimp only); omega)).trans eg0_1_4
  clear ew0_0_4 ew0_1_4 eg0_0_4 eg0_1_4
  go_wp2_with fail
  refine (S_impl_ParseRule _ x0 s0 (maxI_bel (maxI_bel hm vw_5) (by repeat' (first | (with_reducible exact Below.refl _ _) | (with_reducible assumption) | (with_reducible refine bel_set ?_ (by (try dsimp only); omega) _) | (with_reducible refine bel_alloc ?_ _) | (with_reducible refine bel_drewN ?_ _) | (with_reducible refine bel_drew ?_))))).mono ?_
  rintro e w6 ⟨cs6_, fp6, rfl, how6, hfr6, hb6⟩
  have st6 : Below w5.heap.size w5 w6 := bel_trans (by repeat' (first | (with_reducible exact Below.refl _ _) | (with_reducible assumption) | (with_reducible refine bel_set ?_ (by (try dsimp only); omega) _) | (with_reducible refine bel_alloc ?_ _) | (with_reducible refine bel_drewN ?_ _) | (with_reducible refine bel_drew ?_))) hb6
  have zz6 : w5.heap.size + 0 ≤ w6.heap.size := by have := hb6.size; (try simp only [World.size_alloc] at this); omega
  have vw_6 : Below w.heap.size w w6 := bel_trans vw_5 st6
  have vW0_6 : Below w4.heap.size w4 w6 := bel_trans vW0_5 st6
  have vM0_6 : Below w4.heap.size w4 w6 := bel_trans vM0_5 st6
  have zw0_6 : w1.heap.size < w6.heap.size := by omega
  have ew0_0_6 : w6.cell? ⟨w1.heap.size, 0, none⟩ = some (.slice A1_0 (List.length (f0_ParseRule x0).1) c1_0) := (hb6.cell (by (try simp only [World.size_alloc]); (try dsimp only); omega)).trans ew0_0_5
  have ew0_1_6 : w6.cell? ⟨w1.heap.size, 1, none⟩ = some (.slice A1_1 (List.length (f0_ParseRule x0).2) c1_1) := (hb6.cell (by (try simp only [World.size_alloc]); (try dsimp only); omega)).trans ew0_1_5
  have zg0_6 : w2.heap.size < w6.heap.size := by omega
  have eg0_0_6 : w6.cell? ⟨w2.heap.size, 0, none⟩ = some (.slice A2_0 (List.length (f0_ParseRule x0).1) c2_0) := (hb6.cell (by (try simp only [World.size_alloc]); (try dsimp only); omega)).trans eg0_0_5
  have eg0_1_6 : w6.cell? ⟨w2.heap.size, 1, none⟩ = some (.slice A2_1 (List.length (f0_ParseRule x0).2) c2_1) := (hb6.cell (by (try simp only [World.size_alloc]); (try dsimp only); omega)).trans eg0_1_5
  clear ew0_0_5 ew0_1_5 eg0_0_5 eg0_1_5
  obtain ⟨A6_0, c6_0, A6_1, c6_1, rfl⟩ := ow_Rule how6
  have frH0 : FrI (w5.heap.size + 0) w6.heap.size fp6 := hfr6.mono (by (try simp only [World.size_alloc]); omega) (Nat.le_refl _)
  have vH0_6 : Below w6.heap.size w6 w6 := Below.refl _ _
  go_wp2_with fail
  refine (C_laws_eqRule _ _ _ (f0_ParseRule x0) (Ty.ow_rd (Ty.ow_bel (by repeat' (first | (with_reducible exact Below.refl _ _) | (with_reducible assumption) | (with_reducible refine bel_set ?_ (by (try dsimp only); omega) _) | (with_reducible refine bel_alloc ?_ _) | (with_reducible refine bel_drewN ?_ _) | (with_reducible refine bel_drew ?_))) how6)) (Ty.ow_rd (Ty.ow_bel (by repeat' (first | (with_reducible exact Below.refl _ _) | (with_reducible assumption) | (with_reducible refine bel_set ?_ (by (try dsimp only); omega) _) | (with_reducible refine bel_alloc ?_ _) | (with_reducible refine bel_drewN ?_ _) | (with_reducible refine bel_drew ?_))) howW0_4))).mono ?_
  rintro e w7 ⟨rfl, hb7⟩
  have st7 : Below w6.heap.size w6 w7 := bel_trans (by repeat' (first | (with_reducible exact Below.refl _ _) | (with_reducible assumption) | (with_reducible refine bel_set ?_ (by (try dsimp only); omega) _) | (with_reducible refine bel_alloc ?_ _) | (with_reducible refine bel_drewN ?_ _) | (with_reducible refine bel_drew ?_))) hb7
  have zz7 : w6.heap.size + 1 ≤ w7.heap.size := by have := hb7.size; (try simp only [World.size_alloc] at this); omega
  have vw_7 : Below w.heap.size w w7 := bel_trans vw_6 st7
  have vW0_7 : Below w4.heap.size w4 w7 := bel_trans vW0_6 st7
  have vM0_7 : Below w4.heap.size w4 w7 := bel_trans vM0_6 st7
  have vH0_7 : Below w6.heap.size w6 w7 := st7
  have zw0_7 : w1.heap.size < w7.heap.size := by omega
  have ew0_0_7 : w7.cell? ⟨w1.heap.size, 0, none⟩ = some (.slice A1_0 (List.length (f0_ParseRule x0).1) c1_0) := (hb7.cell (by (try simp only [World.size_alloc]); (try dsimp only); omega)).trans ((World.cell?_alloc_lt _ _ _ (by (try simp only [World.size_alloc]); (try dsimp only); omega)).trans ew0_0_6)
  have ew0_1_7 : w7.cell? ⟨w1.heap.size, 1, none⟩ = some (.slice A1_1 (List.length (f0_ParseRule x0).2) c1_1) := (hb7.cell (by (try simp only [World.size_alloc]); (try dsimp only); omega)).trans ((World.cell?_alloc_lt _ _ _ (by (try simp only [World.size_alloc]); (try dsimp only); omega)).trans ew0_1_6)
  have zg0_7 : w2.heap.size < w7.heap.size := by omega
  have eg0_0_7 : w7.cell? ⟨w2.heap.size, 0, none⟩ = some (.slice A2_0 (List.length (f0_ParseRule x0).1) c2_0) := (hb7.cell (by (try simp only [World.size_alloc]); (try dsimp only); omega)).trans ((World.cell?_alloc_lt _ _ _ (by (try simp only [World.size_alloc]); (try dsimp only); omega)).trans eg0_0_6)
  have eg0_1_7 : w7.cell? ⟨w2.heap.size, 1, none⟩ = some (.slice A2_1 (List.length (f0_ParseRule x0).2) c2_1) := (hb7.cell (by (try simp only [World.size_alloc]); (try dsimp only); omega)).trans ((World.cell?_alloc_lt _ _ _ (by (try simp only [World.size_alloc]); (try dsimp only); omega)).trans eg0_1_6)
  have zh0_7 : w6.heap.size < w7.heap.size := by omega
  have eh0_0_7 : w7.cell? ⟨w6.heap.size, 0, none⟩ = some (.slice A6_0 (List.length (f0_ParseRule x0).1) c6_0) := (hb7.cell (by (try simp only [World.size_alloc]); (try dsimp only); omega)).trans ((cell_new w6 37 #[.slice A6_0 (List.length (f0_ParseRule x0).1) c6_0, .slice A6_1 (List.length (f0_ParseRule x0).2) c6_1] 0 (by first | rfl | (simp only [World.size_alloc]))) : _ = some (Value.slice A6_0 (List.length (f0_ParseRule x0).1) c6_0))
  have eh0_1_7 : w7.cell? ⟨w6.heap.size, 1, none⟩ = some (.slice A6_1 (List.length (f0_ParseRule x0).2) c6_1) := (hb7.cell (by (try simp only [World.size_alloc]); (try dsimp only); omega)).trans ((cell_new w6 37 #[.slice A6_0 (List.length (f0_ParseRule x0).1) c6_0, .slice A6_1 (List.length (f0_ParseRule x0).2) c6_1] 1 (by first | rfl | (simp only [World.size_alloc]))) : _ = some (Value.slice A6_1 (List.length (f0_ParseRule x0).2) c6_1))
  clear ew0_0_6 ew0_1_6 eg0_0_6 eg0_1_6
  go_wp2_with fail
  refine (C_laws_heldRule _ _ (f0_ParseRule x0) 1 (Ty.ow_rd (Ty.ow_bel (by repeat' (first | (with_reducible exact Below.refl _ _) | (with_reducible assumption) | (with_reducible refine bel_set ?_ (by (try dsimp only); omega) _) | (with_reducible refine bel_alloc ?_ _) | (with_reducible refine bel_drewN ?_ _) | (with_reducible refine bel_drew ?_))) hm4)) (by omega) (by omega)).mono ?_
  rintro e w8 ⟨rfl, hb8⟩
  have st8 : Below w7.heap.size w7 w8 := bel_trans (by repeat' (first | (with_reducible exact Below.refl _ _) | (with_reducible assumption) | (with_reducible refine bel_set ?_ (by (try dsimp only); omega) _) | (with_reducible refine bel_alloc ?_ _) | (with_reducible refine bel_drewN ?_ _) | (with_reducible refine bel_drew ?_))) hb8
  have zz8 : w7.heap.size + 0 ≤ w8.heap.size := by have := hb8.size; (try simp only [World.size_alloc] at this); omega
  have vw_8 : Below w.heap.size w w8 := bel_trans vw_7 st8
  have vW0_8 : Below w4.heap.size w4 w8 := bel_trans vW0_7 st8
  have vM0_8 : Below w4.heap.size w4 w8 := bel_trans vM0_7 st8
  have vH0_8 : Below w6.heap.size w6 w8 := bel_trans vH0_7 st8
  have zw0_8 : w1.heap.size < w8.heap.size := by omega
  have ew0_0_8 : w8.cell? ⟨w1.heap.size, 0, none⟩ = some (.slice A1_0 (List.length (f0_ParseRule x0).1) c1_0) := (hb8.cell (by (try simp only [World.size_alloc]); (try dsimp only); omega)).trans ew0_0_7
  have ew0_1_8 : w8.cell? ⟨w1.heap.size, 1, none⟩ = some (.slice A1_1 (List.length (f0_ParseRule x0).2) c1_1) := (hb8.cell (by (try simp only [World.size_alloc]); (try dsimp only); omega)).trans ew0_1_7
  have zg0_8 : w2.heap.size < w8.heap.size := by omega
  have eg0_0_8 : w8.cell? ⟨w2.heap.size, 0, none⟩ = some (.slice A2_0 (List.length (f0_ParseRule x0).1) c2_0) := (hb8.cell (by (try simp only [World.size_alloc]); (try dsimp only); omega)).trans eg0_0_7
  have eg0_1_8 : w8.cell? ⟨w2.heap.size, 1, none⟩ = some (.slice A2_1 (List.length (f0_ParseRule x0).2) c2_1) := (hb8.cell (by (try simp only [World.size_alloc]); (try dsimp only); omega)).trans eg0_1_7
  have zh0_8 : w6.heap.size < w8.heap.size := by omega
  have eh0_0_8 : w8.cell? ⟨w6.heap.size, 0, none⟩ = some (.slice A6_0 (List.length (f0_ParseRule x0).1) c6_0) := (hb8.cell (by (try simp only [World.size_alloc]); (try dsimp only); omega)).trans eh0_0_7
  have eh0_1_8 : w8.cell? ⟨w6.heap.size, 1, none⟩ = some (.slice A6_1 (List.length (f0_ParseRule x0).2) c6_1) := (hb8.cell (by (try simp only [World.size_alloc]); (try dsimp only); omega)).trans eh0_1_7
  clear ew0_0_7 ew0_1_7 eg0_0_7 eg0_1_7 eh0_0_7 eh0_1_7
  go_wp2_with fail
  go_ret
  exact ⟨rfl, vw_8⟩
end Go.Proofs.YtpjnidfdkggpfaaDoor
