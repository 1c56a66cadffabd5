/- Rules compared: EqualRules. -/
import Derived.Test.YtmhchmokjconoaaNam
import Derived.Deep.RegionHeld3
namespace Go.Proofs.Ytmhchmokjconoaa
open Go.RowKit
set_option linter.unusedVariables false
set_option linter.unusedSimpArgs false

set_option maxHeartbeats 1000000 in
theorem C_spec_l10SamePat (w : World) (cs1 cs2 : List Value) (x y : List (List UInt8)) (h1 : (Ty.sl .str).rd w cs1 x) (h2 : (Ty.sl .str).rd w cs2 y) :
    Calls Try.prog 54 #[.agg cs1.toArray, .agg cs2.toArray] w (RetB w (decide (x = y))) := by
  obtain ⟨A1, c1, rfl⟩ := Ty.rd_slv h1
  obtain ⟨A2, c2, rfl⟩ := Ty.rd_slv h2
  go_enter Try.func54, Try.ntmps54
  go_wp2_with fail
  refine (C_spec_EqualNames _ _ _ _ _ (Ty.rd_below (by repeat' (first | (with_reducible exact Below.refl _ _) | (with_reducible assumption) | (with_reducible refine bel_set ?_ (by (try dsimp only); omega) _) | (with_reducible refine bel_alloc ?_ _) | (with_reducible refine bel_drewN ?_ _) | (with_reducible refine bel_drew ?_))) h1) (Ty.rd_below (by repeat' (first | (with_reducible exact Below.refl _ _) | (with_reducible assumption) | (with_reducible refine bel_set ?_ (by (try dsimp only); omega) _) | (with_reducible refine bel_alloc ?_ _) | (with_reducible refine bel_drewN ?_ _) | (with_reducible refine bel_drew ?_))) h2)).mono ?_
  rintro e w1 ⟨rfl, hb1⟩
  have hw1 : Below w.heap.size w w1 := bel_trans (by repeat' (first | (with_reducible exact Below.refl _ _) | (with_reducible assumption) | (with_reducible refine bel_set ?_ (by (try dsimp only); omega) _) | (with_reducible refine bel_alloc ?_ _) | (with_reducible refine bel_drewN ?_ _) | (with_reducible refine bel_drew ?_))) hb1
  go_wp2
  go_ret
  exact ⟨rfl, hw1⟩

set_option maxHeartbeats 1000000 in
theorem C_spec_EqualRules (w : World) (cs1 cs2 : List Value) (x y : tRule.D) (h1 : tRule.rd w cs1 x) (h2 : tRule.rd w cs2 y) :
    Calls Try.prog 14 #[.agg cs1.toArray, .agg cs2.toArray] w (RetB w (decide (x.1 = y.1) && decide (x.2 = y.2))) := by
  obtain ⟨A0, c0, A1, c1, rfl, g1, g2⟩ := rd_Rule h1
  obtain ⟨B0, d0, B1, d1, rfl, k1, k2⟩ := rd_Rule h2
  go_enter Try.func14, Try.ntmps14
  go_wp2_with fail
  refine (C_spec_l10SamePat _ _ _ _ _ (Ty.rd_below (by repeat' (first | (with_reducible exact Below.refl _ _) | (with_reducible assumption) | (with_reducible refine bel_set ?_ (by (try dsimp only); omega) _) | (with_reducible refine bel_alloc ?_ _) | (with_reducible refine bel_drewN ?_ _) | (with_reducible refine bel_drew ?_))) g1) (Ty.rd_below (by repeat' (first | (with_reducible exact Below.refl _ _) | (with_reducible assumption) | (with_reducible refine bel_set ?_ (by (try dsimp only); omega) _) | (with_reducible refine bel_alloc ?_ _) | (with_reducible refine bel_drewN ?_ _) | (with_reducible refine bel_drew ?_))) k1)).mono ?_
  rintro e w1 ⟨rfl, hb1⟩
  have hw1 : Below w.heap.size w w1 := bel_trans (by repeat' (first | (with_reducible exact Below.refl _ _) | (with_reducible assumption) | (with_reducible refine bel_set ?_ (by (try dsimp only); omega) _) | (with_reducible refine bel_alloc ?_ _) | (with_reducible refine bel_drewN ?_ _) | (with_reducible refine bel_drew ?_))) hb1
  obtain ⟨hc1, hf1⟩ := bcell hb1
  cases hq : decide (x.1 = y.1)
  · go_wp2
    go_ret
    exact ⟨ret_bool (by rw [hq]; rfl), hw1⟩
  · go_wp2_with fail
    refine (C_spec_l10SamePat _ _ _ _ _ (Ty.rd_below (by repeat' (first | (with_reducible exact Below.refl _ _) | (with_reducible assumption) | (with_reducible refine bel_set ?_ (by (try dsimp only); omega) _) | (with_reducible refine bel_alloc ?_ _) | (with_reducible refine bel_drewN ?_ _) | (with_reducible refine bel_drew ?_))) g2) (Ty.rd_below (by repeat' (first | (with_reducible exact Below.refl _ _) | (with_reducible assumption) | (with_reducible refine bel_set ?_ (by (try dsimp only); omega) _) | (with_reducible refine bel_alloc ?_ _) | (with_reducible refine bel_drewN ?_ _) | (with_reducible refine bel_drew ?_))) k2)).mono ?_
    rintro e w2 ⟨rfl, hb2⟩
    have hw2 : Below w.heap.size w w2 := bel_trans (by repeat' (first | (with_reducible exact Below.refl _ _) | (with_reducible assumption) | (with_reducible refine bel_set ?_ (by (try dsimp only); omega) _) | (with_reducible refine bel_alloc ?_ _) | (with_reducible refine bel_drewN ?_ _) | (with_reducible refine bel_drew ?_))) hb2
    go_wp2
    go_ret
    exact ⟨ret_bool (by rw [hq]; rfl), hw2⟩

set_option maxHeartbeats 1000000 in
theorem C_impl_EqualRules (w : World) (cs1 cs2 : List Value) (x y : tRule.D) (h1 : tRule.rd w cs1 x) (h2 : tRule.rd w cs2 y) :
    Calls Try.prog 16 #[.agg cs1.toArray, .agg cs2.toArray] w (RetB w (decide (x.1 = y.1) && decide (x.2 = y.2))) := by
  obtain ⟨A0, c0, A1, c1, rfl, g1, g2⟩ := rd_Rule h1
  obtain ⟨B0, d0, B1, d1, rfl, k1, k2⟩ := rd_Rule h2
  go_enter Try.func16, Try.ntmps16
  go_wp2_with fail
  refine (C_slices_Equal_str _ _ _ _ _ (Ty.rd_below (by repeat' (first | (with_reducible exact Below.refl _ _) | (with_reducible assumption) | (with_reducible refine bel_set ?_ (by (try dsimp only); omega) _) | (with_reducible refine bel_alloc ?_ _) | (with_reducible refine bel_drewN ?_ _) | (with_reducible refine bel_drew ?_))) g1) (Ty.rd_below (by repeat' (first | (with_reducible exact Below.refl _ _) | (with_reducible assumption) | (with_reducible refine bel_set ?_ (by (try dsimp only); omega) _) | (with_reducible refine bel_alloc ?_ _) | (with_reducible refine bel_drewN ?_ _) | (with_reducible refine bel_drew ?_))) k1)).mono ?_
  rintro e w1 ⟨rfl, hb1⟩
  have hw1 : Below w.heap.size w w1 := bel_trans (by repeat' (first | (with_reducible exact Below.refl _ _) | (with_reducible assumption) | (with_reducible refine bel_set ?_ (by (try dsimp only); omega) _) | (with_reducible refine bel_alloc ?_ _) | (with_reducible refine bel_drewN ?_ _) | (with_reducible refine bel_drew ?_))) hb1
  obtain ⟨hc1, hf1⟩ := bcell hb1
  cases hq : decide (x.1 = y.1)
  · go_wp2
    go_ret
    exact ⟨ret_bool (by rw [hq]; rfl), hw1⟩
  · go_wp2_with fail
    refine (C_slices_Equal_str _ _ _ _ _ (Ty.rd_below (by repeat' (first | (with_reducible exact Below.refl _ _) | (with_reducible assumption) | (with_reducible refine bel_set ?_ (by (try dsimp only); omega) _) | (with_reducible refine bel_alloc ?_ _) | (with_reducible refine bel_drewN ?_ _) | (with_reducible refine bel_drew ?_))) g2) (Ty.rd_below (by repeat' (first | (with_reducible exact Below.refl _ _) | (with_reducible assumption) | (with_reducible refine bel_set ?_ (by (try dsimp only); omega) _) | (with_reducible refine bel_alloc ?_ _) | (with_reducible refine bel_drewN ?_ _) | (with_reducible refine bel_drew ?_))) k2)).mono ?_
    rintro e w2 ⟨rfl, hb2⟩
    have hw2 : Below w.heap.size w w2 := bel_trans (by repeat' (first | (with_reducible exact Below.refl _ _) | (with_reducible assumption) | (with_reducible refine bel_set ?_ (by (try dsimp only); omega) _) | (with_reducible refine bel_alloc ?_ _) | (with_reducible refine bel_drewN ?_ _) | (with_reducible refine bel_drew ?_))) hb2
    go_wp2
    go_ret
    exact ⟨ret_bool (by rw [hq]; rfl), hw2⟩

set_option maxRecDepth 100000 in
set_option maxHeartbeats 1000000 in
theorem L_EqualRules (w : World) (cs1 cs2 : List Value) (x y : tRule.D) (h1 : tRule.rd w cs1 x) (h2 : tRule.rd w cs2 y) :
    Calls Try.prog 3 #[.agg cs1.toArray, .agg cs2.toArray] w (RetB w true) := by
  obtain ⟨A0, c0, A1, c1, rfl, g1, g2⟩ := rd_Rule h1
  obtain ⟨B0, d0, B1, d1, rfl, k1, k2⟩ := rd_Rule h2
  go_enter Try.func3, Try.ntmps3
  go_wp2_with fail
  refine (C_laws_szRule _ _ _ 1048576 (Ty.rd_below (by repeat' (first | (with_reducible exact Below.refl _ _) | (with_reducible assumption) | (with_reducible refine bel_set ?_ (by (try dsimp only); omega) _) | (with_reducible refine bel_alloc ?_ _) | (with_reducible refine bel_drewN ?_ _) | (with_reducible refine bel_drew ?_))) h1) (by omega) (by omega)).mono ?_
  rintro e w1 ⟨r1, rfl, hr1, hb1⟩
  have hw1 : Below w.heap.size w w1 := bel_trans (by repeat' (first | (with_reducible exact Below.refl _ _) | (with_reducible assumption) | (with_reducible refine bel_set ?_ (by (try dsimp only); omega) _) | (with_reducible refine bel_alloc ?_ _) | (with_reducible refine bel_drewN ?_ _) | (with_reducible refine bel_drew ?_))) hb1
  obtain ⟨hc1, hf1⟩ := bcell hb1
  have hz1 := hb1.size
  try simp only [World.size_alloc, World.size_setCell] at hz1
  have z10 : w.heap.size < w1.heap.size := by omega
  have z11 : w.heap.size + 1 < w1.heap.size := by omega
  rcases hr1 with rfl | ⟨p1, q1⟩
  · go_wp2
    go_ret
    exact ⟨rfl, hw1⟩
  go_wp2_with fail
  refine (C_laws_szRule _ _ _ r1 (Ty.rd_below (by repeat' (first | (with_reducible exact Below.refl _ _) | (with_reducible assumption) | (with_reducible refine bel_set ?_ (by (try dsimp only); omega) _) | (with_reducible refine bel_alloc ?_ _) | (with_reducible refine bel_drewN ?_ _) | (with_reducible refine bel_drew ?_))) h2) p1 (by omega)).mono ?_
  rintro e w2 ⟨r2, rfl, hr2, hb2⟩
  have hw2 : Below w.heap.size w w2 := bel_trans (by repeat' (first | (with_reducible exact Below.refl _ _) | (with_reducible assumption) | (with_reducible refine bel_set ?_ (by (try dsimp only); omega) _) | (with_reducible refine bel_alloc ?_ _) | (with_reducible refine bel_drewN ?_ _) | (with_reducible refine bel_drew ?_))) hb2
  obtain ⟨hc2, hf2⟩ := bcell hb2
  have hz2 := hb2.size
  have z20 : w.heap.size < w2.heap.size := by omega
  have z21 : w.heap.size + 1 < w2.heap.size := by omega
  rcases hr2 with rfl | ⟨p2, q2⟩
  · go_wp2
    go_ret
    exact ⟨rfl, hw2⟩
  have s1 : Ty.bulk tRule x ≤ 1048576 := by omega
  have s2 : Ty.bulk tRule y ≤ 1048576 := by omega
  go_wp2_with fail
  have HS : Hid (∀ W, Below w2.heap.size w2 W → Below w2.heap.size w2 W ∧ W.cell? ⟨w.heap.size, 0, none⟩ = some (.slice A0 (List.length x.1) c0) ∧ W.cell? ⟨w.heap.size, 1, none⟩ = some (.slice A1 (List.length x.2) c1) ∧
      W.cell? ⟨w.heap.size + 1, 0, none⟩ = some (.slice B0 (List.length y.1) d0) ∧ W.cell? ⟨w.heap.size + 1, 1, none⟩ = some (.slice B1 (List.length y.2) d1)) := fun W hb =>
    ⟨hb, (hb.cell z20).trans ((hc2 _ _ z10).trans ((hc1 _ _ (by (try simp only [World.size_alloc, World.size_setCell, size_drewN, World.size_drew]); omega)).trans (by go_simp))), (hb.cell z20).trans ((hc2 _ _ z10).trans ((hc1 _ _ (by (try simp only [World.size_alloc, World.size_setCell, size_drewN, World.size_drew]); omega)).trans (by go_simp))),
      (hb.cell z21).trans ((hc2 _ _ z11).trans ((hc1 _ _ (by (try simp only [World.size_alloc, World.size_setCell, size_drewN, World.size_drew]); omega)).trans (by go_simp))), (hb.cell z21).trans ((hc2 _ _ z11).trans ((hc1 _ _ (by (try simp only [World.size_alloc, World.size_setCell, size_drewN, World.size_drew]); omega)).trans (by go_simp)))⟩
  have hv : Below w2.heap.size w2 w2 := Below.refl _ _
  go_region_held3 (fun W => Below w2.heap.size w2 W ∧ W.cell? ⟨w.heap.size, 0, none⟩ = some (.slice A0 (List.length x.1) c0) ∧ W.cell? ⟨w.heap.size, 1, none⟩ = some (.slice A1 (List.length x.2) c1) ∧
      W.cell? ⟨w.heap.size + 1, 0, none⟩ = some (.slice B0 (List.length y.1) d0) ∧ W.cell? ⟨w.heap.size + 1, 1, none⟩ = some (.slice B1 (List.length y.2) d1)) (exact HS.out _ (by repeat' (first | (with_reducible exact Below.refl _ _) | (with_reducible assumption) | (with_reducible refine bel_set ?_ (by (try dsimp only); omega) _) | (with_reducible refine bel_alloc ?_ _) | (with_reducible refine bel_drewN ?_ _) | (with_reducible refine bel_drew ?_))))
    (first
      | (go_at_call 15; (with_reducible refine (C_laws_toRule _ _ x (Ty.rd_below (by repeat' (first | (with_reducible exact Below.refl _ _) | (with_reducible assumption) | (with_reducible refine bel_set ?_ (by (try dsimp only); omega) _) | (with_reducible refine bel_alloc ?_ _) | (with_reducible refine bel_drewN ?_ _) | (with_reducible refine bel_drew ?_))) h1) s1).mono ?_); rintro e wa ⟨csa, fpa, rfl, howa, hfra, hba⟩; have hva : Below w2.heap.size w2 wa := bel_trans (by repeat' (first | (with_reducible exact Below.refl _ _) | (with_reducible assumption) | (with_reducible refine bel_set ?_ (by (try dsimp only); omega) _) | (with_reducible refine bel_alloc ?_ _) | (with_reducible refine bel_drewN ?_ _) | (with_reducible refine bel_drew ?_))) hba; have hwa : Below w.heap.size w wa := bel_trans (by repeat' (first | (with_reducible exact Below.refl _ _) | (with_reducible assumption) | (with_reducible refine bel_set ?_ (by (try dsimp only); omega) _) | (with_reducible refine bel_alloc ?_ _) | (with_reducible refine bel_drewN ?_ _) | (with_reducible refine bel_drew ?_))) hba)
      | (go_at_call 15; (with_reducible refine (C_laws_toRule _ _ y (Ty.rd_below (by repeat' (first | (with_reducible exact Below.refl _ _) | (with_reducible assumption) | (with_reducible refine bel_set ?_ (by (try dsimp only); omega) _) | (with_reducible refine bel_alloc ?_ _) | (with_reducible refine bel_drewN ?_ _) | (with_reducible refine bel_drew ?_))) h2) s2).mono ?_); rintro e wb ⟨csb, fpb, rfl, howb, hfrb, hbb⟩; have hvb : Below w2.heap.size w2 wb := bel_trans hva hbb; have hwb : Below w.heap.size w wb := bel_trans hwa hbb)
      | (go_at_call 14; (with_reducible refine (C_spec_EqualRules _ _ _ x y (Ty.rd_below hbb (Ty.ow_rd howa)) (Ty.ow_rd howb)).mono ?_); rintro e w3 ⟨rfl, hb3⟩; have hv3 : Below w2.heap.size w2 w3 := bel_trans hvb hb3; have hw3 : Below w.heap.size w w3 := bel_trans hwb hb3))
  obtain ⟨_, k1, k2, k3, k4⟩ := HS.out _ hv3
  go_wp2_with fail
  refine (C_laws_toRule _ _ x (Ty.rd_below (by repeat' (first | (with_reducible exact Below.refl _ _) | (with_reducible assumption) | (with_reducible refine bel_set ?_ (by (try dsimp only); omega) _) | (with_reducible refine bel_alloc ?_ _) | (with_reducible refine bel_drewN ?_ _) | (with_reducible refine bel_drew ?_))) h1) s1).mono ?_
  rintro e w4 ⟨cs4, fp4, rfl, how4, hfr4, hb4⟩
  obtain ⟨A40, c40, A41, c41, rfl⟩ := ow_Rule how4
  have hv4 : Below w2.heap.size w2 w4 := bel_trans hv3 hb4
  have hw4 : Below w.heap.size w w4 := bel_trans hw3 hb4
  obtain ⟨_, l1, l2, l3, l4⟩ := HS.out _ hv4
  clear k1 k2 k3 k4
  have y1 : w.heap.size < w4.heap.size := by have := hv4.size; omega
  have y2 : w.heap.size + 1 < w4.heap.size := by have := hv4.size; omega
  go_wp2_with fail
  refine (C_laws_toRule _ _ y (Ty.rd_below (by repeat' (first | (with_reducible exact Below.refl _ _) | (with_reducible assumption) | (with_reducible refine bel_set ?_ (by (try dsimp only); omega) _) | (with_reducible refine bel_alloc ?_ _) | (with_reducible refine bel_drewN ?_ _) | (with_reducible refine bel_drew ?_))) h2) s2).mono ?_
  rintro e w5 ⟨cs5, fp5, rfl, how5, hfr5, hb5⟩
  obtain ⟨A50, c50, A51, c51, rfl⟩ := ow_Rule how5
  have hv5 : Below w2.heap.size w2 w5 := bel_trans (by repeat' (first | (with_reducible exact Below.refl _ _) | (with_reducible assumption) | (with_reducible refine bel_set ?_ (by (try dsimp only); omega) _) | (with_reducible refine bel_alloc ?_ _) | (with_reducible refine bel_drewN ?_ _) | (with_reducible refine bel_drew ?_))) hb5
  have hw5 : Below w.heap.size w w5 := bel_trans (by repeat' (first | (with_reducible exact Below.refl _ _) | (with_reducible assumption) | (with_reducible refine bel_set ?_ (by (try dsimp only); omega) _) | (with_reducible refine bel_alloc ?_ _) | (with_reducible refine bel_drewN ?_ _) | (with_reducible refine bel_drew ?_))) hb5
  have hx5 : Below w4.heap.size w4 w5 := bel_trans (by repeat' (first | (with_reducible exact Below.refl _ _) | (with_reducible assumption) | (with_reducible refine bel_set ?_ (by (try dsimp only); omega) _) | (with_reducible refine bel_alloc ?_ _) | (with_reducible refine bel_drewN ?_ _) | (with_reducible refine bel_drew ?_))) hb5
  obtain ⟨hc5, hf5⟩ := bcell hb5
  have z5 : w4.heap.size < w5.heap.size := by have := hb5.size; simp only [World.size_alloc] at this; omega
  clear l1 l2 l3 l4
  obtain ⟨_, l1, l2, l3, l4⟩ := HS.out _ hv5
  have y3 : w.heap.size < w5.heap.size := by omega
  have y4 : w.heap.size + 1 < w5.heap.size := by omega
  go_wp2_with fail
  refine (C_impl_EqualRules _ _ _ x y (Ty.rd_below (by repeat' (first | (with_reducible exact Below.refl _ _) | (with_reducible assumption) | (with_reducible refine bel_set ?_ (by (try dsimp only); omega) _) | (with_reducible refine bel_alloc ?_ _) | (with_reducible refine bel_drewN ?_ _) | (with_reducible refine bel_drew ?_))) (Ty.ow_rd how4)) (Ty.rd_below (by repeat' (first | (with_reducible exact Below.refl _ _) | (with_reducible assumption) | (with_reducible refine bel_set ?_ (by (try dsimp only); omega) _) | (with_reducible refine bel_alloc ?_ _) | (with_reducible refine bel_drewN ?_ _) | (with_reducible refine bel_drew ?_))) (Ty.ow_rd how5))).mono ?_
  rintro e w6 ⟨rfl, hb6⟩
  have hv6 : Below w2.heap.size w2 w6 := bel_trans (by repeat' (first | (with_reducible exact Below.refl _ _) | (with_reducible assumption) | (with_reducible refine bel_set ?_ (by (try dsimp only); omega) _) | (with_reducible refine bel_alloc ?_ _) | (with_reducible refine bel_drewN ?_ _) | (with_reducible refine bel_drew ?_))) hb6
  have hw6 : Below w.heap.size w w6 := bel_trans (by repeat' (first | (with_reducible exact Below.refl _ _) | (with_reducible assumption) | (with_reducible refine bel_set ?_ (by (try dsimp only); omega) _) | (with_reducible refine bel_alloc ?_ _) | (with_reducible refine bel_drewN ?_ _) | (with_reducible refine bel_drew ?_))) hb6
  have hx6 : Below w4.heap.size w4 w6 := bel_trans (by repeat' (first | (with_reducible exact Below.refl _ _) | (with_reducible assumption) | (with_reducible refine bel_set ?_ (by (try dsimp only); omega) _) | (with_reducible refine bel_alloc ?_ _) | (with_reducible refine bel_drewN ?_ _) | (with_reducible refine bel_drew ?_))) hb6
  have hq : ((decide (x.1 = y.1) && decide (x.2 = y.2)) != (decide (x.1 = y.1) && decide (x.2 = y.2))) = false := by simp
  have y5 : w.heap.size < w6.heap.size := by have := hv6.size; omega
  have y6 : w.heap.size + 1 < w6.heap.size := by have := hv6.size; omega
  have y8 : w5.heap.size < w6.heap.size := by have := hb6.size; simp only [World.size_alloc] at this; omega
  have y7 : w4.heap.size < w6.heap.size := by omega
  have HR : Hid (∀ W, Below w6.heap.size w6 W → Below w6.heap.size w6 W ∧ W.cell? ⟨w.heap.size, 0, none⟩ = some (.slice A0 (List.length x.1) c0) ∧ W.cell? ⟨w.heap.size, 1, none⟩ = some (.slice A1 (List.length x.2) c1) ∧ W.cell? ⟨w.heap.size + 1, 0, none⟩ = some (.slice B0 (List.length y.1) d0) ∧ W.cell? ⟨w.heap.size + 1, 1, none⟩ = some (.slice B1 (List.length y.2) d1) ∧ W.cell? ⟨w4.heap.size, 0, none⟩ = some (.slice A40 (List.length x.1) c40) ∧ W.cell? ⟨w4.heap.size, 1, none⟩ = some (.slice A41 (List.length x.2) c41) ∧ W.cell? ⟨w5.heap.size, 0, none⟩ = some (.slice A50 (List.length y.1) c50) ∧ W.cell? ⟨w5.heap.size, 1, none⟩ = some (.slice A51 (List.length y.2) c51)) := fun W hb => ⟨hb, (HS.out W (bel_trans hv6 hb)).2.1, (HS.out W (bel_trans hv6 hb)).2.2.1, (HS.out W (bel_trans hv6 hb)).2.2.2.1, (HS.out W (bel_trans hv6 hb)).2.2.2.2, (hb.cell y7).trans ((hb6.cell (by (try simp only [World.size_alloc, World.size_setCell, size_drewN, World.size_drew]); omega)).trans (by go_simp)), (hb.cell y7).trans ((hb6.cell (by (try simp only [World.size_alloc, World.size_setCell, size_drewN, World.size_drew]); omega)).trans (by go_simp)), (hb.cell y8).trans ((hb6.cell (by (try simp only [World.size_alloc, World.size_setCell, size_drewN, World.size_drew]); omega)).trans (by go_simp)), (hb.cell y8).trans ((hb6.cell (by (try simp only [World.size_alloc, World.size_setCell, size_drewN, World.size_drew]); omega)).trans (by go_simp))⟩
  go_wp2_with fail
  go_region_held3 (fun W => Below w6.heap.size w6 W ∧ W.cell? ⟨w.heap.size, 0, none⟩ = some (.slice A0 (List.length x.1) c0) ∧ W.cell? ⟨w.heap.size, 1, none⟩ = some (.slice A1 (List.length x.2) c1) ∧ W.cell? ⟨w.heap.size + 1, 0, none⟩ = some (.slice B0 (List.length y.1) d0) ∧ W.cell? ⟨w.heap.size + 1, 1, none⟩ = some (.slice B1 (List.length y.2) d1) ∧ W.cell? ⟨w4.heap.size, 0, none⟩ = some (.slice A40 (List.length x.1) c40) ∧ W.cell? ⟨w4.heap.size, 1, none⟩ = some (.slice A41 (List.length x.2) c41) ∧ W.cell? ⟨w5.heap.size, 0, none⟩ = some (.slice A50 (List.length y.1) c50) ∧ W.cell? ⟨w5.heap.size, 1, none⟩ = some (.slice A51 (List.length y.2) c51)) (exact HR.out _ (by repeat' (first | (with_reducible exact Below.refl _ _) | (with_reducible assumption) | (with_reducible refine bel_set ?_ (by (try dsimp only); omega) _) | (with_reducible refine bel_alloc ?_ _) | (with_reducible refine bel_drewN ?_ _) | (with_reducible refine bel_drew ?_))))
    (first
      | (go_at_call 15; (with_reducible refine (C_laws_toRule _ _ x (Ty.rd_below (by repeat' (first | (with_reducible exact Below.refl _ _) | (with_reducible assumption) | (with_reducible refine bel_set ?_ (by (try dsimp only); omega) _) | (with_reducible refine bel_alloc ?_ _) | (with_reducible refine bel_drewN ?_ _) | (with_reducible refine bel_drew ?_))) h1) s1).mono ?_); rintro e wa ⟨csa, fpa, rfl, howa, hfra, hba⟩; have hva : Below w6.heap.size w6 wa := bel_trans (by repeat' (first | (with_reducible exact Below.refl _ _) | (with_reducible assumption) | (with_reducible refine bel_set ?_ (by (try dsimp only); omega) _) | (with_reducible refine bel_alloc ?_ _) | (with_reducible refine bel_drewN ?_ _) | (with_reducible refine bel_drew ?_))) hba; have hwa : Below w.heap.size w wa := bel_trans (by repeat' (first | (with_reducible exact Below.refl _ _) | (with_reducible assumption) | (with_reducible refine bel_set ?_ (by (try dsimp only); omega) _) | (with_reducible refine bel_alloc ?_ _) | (with_reducible refine bel_drewN ?_ _) | (with_reducible refine bel_drew ?_))) hba; have hxa : Below w4.heap.size w4 wa := bel_trans (by repeat' (first | (with_reducible exact Below.refl _ _) | (with_reducible assumption) | (with_reducible refine bel_set ?_ (by (try dsimp only); omega) _) | (with_reducible refine bel_alloc ?_ _) | (with_reducible refine bel_drewN ?_ _) | (with_reducible refine bel_drew ?_))) hba)
      | (go_at_call 17; (with_reducible refine (C_laws_eqRule _ _ _ x (Ty.rd_below hxa (Ty.ow_rd how4)) (Ty.ow_rd howa)).mono ?_); rintro e w7 ⟨rfl, hb7⟩; have hv7 : Below w6.heap.size w6 w7 := bel_trans hva hb7; have hw7 : Below w.heap.size w w7 := bel_trans hwa hb7))
  go_wp2_with fail
  have hx7 : Below w5.heap.size w5 w6 := bel_trans (by repeat' (first | (with_reducible exact Below.refl _ _) | (with_reducible assumption) | (with_reducible refine bel_set ?_ (by (try dsimp only); omega) _) | (with_reducible refine bel_alloc ?_ _) | (with_reducible refine bel_drewN ?_ _) | (with_reducible refine bel_drew ?_))) hb6
  go_region_held3 (fun W => Below w6.heap.size w6 W ∧ W.cell? ⟨w.heap.size, 0, none⟩ = some (.slice A0 (List.length x.1) c0) ∧ W.cell? ⟨w.heap.size, 1, none⟩ = some (.slice A1 (List.length x.2) c1) ∧ W.cell? ⟨w.heap.size + 1, 0, none⟩ = some (.slice B0 (List.length y.1) d0) ∧ W.cell? ⟨w.heap.size + 1, 1, none⟩ = some (.slice B1 (List.length y.2) d1) ∧ W.cell? ⟨w4.heap.size, 0, none⟩ = some (.slice A40 (List.length x.1) c40) ∧ W.cell? ⟨w4.heap.size, 1, none⟩ = some (.slice A41 (List.length x.2) c41) ∧ W.cell? ⟨w5.heap.size, 0, none⟩ = some (.slice A50 (List.length y.1) c50) ∧ W.cell? ⟨w5.heap.size, 1, none⟩ = some (.slice A51 (List.length y.2) c51)) (exact HR.out _ (by repeat' (first | (with_reducible exact Below.refl _ _) | (with_reducible assumption) | (with_reducible refine bel_set ?_ (by (try dsimp only); omega) _) | (with_reducible refine bel_alloc ?_ _) | (with_reducible refine bel_drewN ?_ _) | (with_reducible refine bel_drew ?_))))
    (first
      | (go_at_call 15; (with_reducible refine (C_laws_toRule _ _ y (Ty.rd_below (by repeat' (first | (with_reducible exact Below.refl _ _) | (with_reducible assumption) | (with_reducible refine bel_set ?_ (by (try dsimp only); omega) _) | (with_reducible refine bel_alloc ?_ _) | (with_reducible refine bel_drewN ?_ _) | (with_reducible refine bel_drew ?_))) h2) s2).mono ?_); rintro e wa ⟨csa, fpa, rfl, howa, hfra, hba⟩; have hva : Below w6.heap.size w6 wa := bel_trans (by repeat' (first | (with_reducible exact Below.refl _ _) | (with_reducible assumption) | (with_reducible refine bel_set ?_ (by (try dsimp only); omega) _) | (with_reducible refine bel_alloc ?_ _) | (with_reducible refine bel_drewN ?_ _) | (with_reducible refine bel_drew ?_))) hba; have hwa : Below w.heap.size w wa := bel_trans (by repeat' (first | (with_reducible exact Below.refl _ _) | (with_reducible assumption) | (with_reducible refine bel_set ?_ (by (try dsimp only); omega) _) | (with_reducible refine bel_alloc ?_ _) | (with_reducible refine bel_drewN ?_ _) | (with_reducible refine bel_drew ?_))) hba; have hxa : Below w5.heap.size w5 wa := bel_trans hx7 hva)
      | (go_at_call 17; (with_reducible refine (C_laws_eqRule _ _ _ y (Ty.rd_below hxa (Ty.ow_rd how5)) (Ty.ow_rd howa)).mono ?_); rintro e w8 ⟨rfl, hb8⟩; have hv8 : Below w6.heap.size w6 w8 := bel_trans hva hb8; have hw8 : Below w.heap.size w w8 := bel_trans hwa hb8))
  go_wp2_with fail
  go_ret
  exact ⟨rfl, hw8⟩
end Go.Proofs.Ytmhchmokjconoaa
