/- Data: the walks. -/
import Derived.Test.YtldgbnlcnlfmeaaNam
import Derived.Test.YtldgbnlcnlfmeaaMrk
import Derived.Test.YtldgbnlcnlfmeaaPure
import Derived.Deep.RegionHeld3
namespace Go.Proofs.Ytldgbnlcnlfmeaa
open Go.RowKit
set_option linter.unusedVariables false
set_option linter.unusedSimpArgs false

def f_FreshAt (x : tData.D) (a : Int) : Bool := decide (a ≤ x.2.2.2.1)
set_option maxHeartbeats 400000 in
theorem C_spec_FreshAt (w : World) (cs : List Value) (x : tData.D) (a : Int) (h : tData.rd w cs x) (s0 : Ty.bulk tData x ≤ 1048576) (i1 : -9223372036854775808 ≤ a ∧ a ≤ 9223372036854775807) :
    Calls Try.prog 60 #[.agg cs.toArray, .int .i64 a] w (RetB w (f_FreshAt x a)) := by
  obtain ⟨A00, c00, A01, c01, A02, c02, rfl, _, _, _, _, _⟩ := rd_Data h
  go_enter Try.func60, Try.ntmps60
  go_wp2
  go_ret
  exact ⟨rfl, (by repeat' (first | (with_reducible exact Below.refl _ _) | (with_reducible assumption) | (with_reducible refine bel_set ?_ (by (try dsimp only); omega) _) | (with_reducible refine bel_alloc ?_ _) | (with_reducible refine bel_drewN ?_ _) | (with_reducible refine bel_drew ?_)))⟩
set_option maxHeartbeats 400000 in
theorem C_impl_FreshAt (w : World) (cs : List Value) (x : tData.D) (a : Int) (h : tData.rd w cs x) (s0 : Ty.bulk tData x ≤ 1048576) (i1 : -9223372036854775808 ≤ a ∧ a ≤ 9223372036854775807) :
    Calls Try.prog 43 #[.agg cs.toArray, .int .i64 a] w (RetB w (f_FreshAt x a)) := by
  obtain ⟨A00, c00, A01, c01, A02, c02, rfl, _, _, _, _, _⟩ := rd_Data h
  go_enter Try.func43, Try.ntmps43
  go_wp2
  go_ret
  exact ⟨rfl, (by repeat' (first | (with_reducible exact Below.refl _ _) | (with_reducible assumption) | (with_reducible refine bel_set ?_ (by (try dsimp only); omega) _) | (with_reducible refine bel_alloc ?_ _) | (with_reducible refine bel_drewN ?_ _) | (with_reducible refine bel_drew ?_)))⟩
def f_EqualData (x y : tData.D) : Bool := decide (x.1 = y.1) && (decide (x.2.1 = y.2.1) && (decide (x.2.2.1 = y.2.2.1) && (decide (x.2.2.2.1 = y.2.2.2.1) && decide (x.2.2.2.2 = y.2.2.2.2))))
set_option maxHeartbeats 1000000 in
theorem C_impl_EqualNames (w : World) (cs1 cs2 : List Value) (x y : List (List UInt8)) (h1 : (Ty.sl .str).rd w cs1 x) (h2 : (Ty.sl .str).rd w cs2 y) :
    Calls Try.prog 74 #[.agg cs1.toArray, .agg cs2.toArray] w (RetB w (decide (x = y))) := by
  obtain ⟨A1, c1, rfl⟩ := Ty.rd_slv h1
  obtain ⟨A2, c2, rfl⟩ := Ty.rd_slv h2
  go_enter Try.func74, Try.ntmps74
  go_wp2_with fail
  refine (C_slices_Equal_str _ _ _ x y (Ty.rd_below (by repeat' (first | (with_reducible exact Below.refl _ _) | (with_reducible assumption) | (with_reducible refine bel_set ?_ (by (try dsimp only); omega) _) | (with_reducible refine bel_alloc ?_ _) | (with_reducible refine bel_drewN ?_ _) | (with_reducible refine bel_drew ?_))) h1) (Ty.rd_below (by repeat' (first | (with_reducible exact Below.refl _ _) | (with_reducible assumption) | (with_reducible refine bel_set ?_ (by (try dsimp only); omega) _) | (with_reducible refine bel_alloc ?_ _) | (with_reducible refine bel_drewN ?_ _) | (with_reducible refine bel_drew ?_))) h2)).mono ?_
  rintro e w1 ⟨rfl, hb1⟩
  have hw1 : Below w.heap.size w w1 := bel_trans (by repeat' (first | (with_reducible exact Below.refl _ _) | (with_reducible assumption) | (with_reducible refine bel_set ?_ (by (try dsimp only); omega) _) | (with_reducible refine bel_alloc ?_ _) | (with_reducible refine bel_drewN ?_ _) | (with_reducible refine bel_drew ?_))) hb1
  go_wp2
  go_ret
  exact ⟨rfl, hw1⟩
set_option maxHeartbeats 1000000 in
theorem C_slices_Equal_byte (w : World) (v1 v2 : Value) (x y : List UInt8) (h1 : (Ty.sl .byte).rd w [v1] x) (h2 : (Ty.sl .byte).rd w [v2] y) :
    Calls Try.prog 89 #[v1, v2] w (RetB w (decide (x = y))) := by
  obtain ⟨A1, c1, rfl, hc1, hm1, hn1⟩ := Ty.rd_sl h1
  obtain ⟨A2, c2, rfl, hc2, hm2, hn2⟩ := Ty.rd_sl h2
  by_cases hl : x.length = y.length
  · have q1 : ((x.length : Int) != y.length) = false := by simp [hl]
    have HL := Lib.hid hl
    clear hl
    go_enter Try.func89, Try.ntmps89
    go_wp2
    go_loopw [13] (fun i wr => ∃ k : Nat, k ≤ x.length ∧ i = .int .i64 k ∧ x.take k = y.take k ∧ Below w.heap.size w wr) (fun i _ => x.length - (intOf i).toNat)
    case atStart => exact ⟨0, by omega, rfl, rfl, Below.refl _ _⟩
    case round =>
      obtain ⟨k, hk, rfl, htk, hb⟩ := hrel
      have HT := Lib.hid htk
      clear htk
      by_cases hlt : k < x.length
      · have hlt2 : k < y.length := by have := HL.out; omega
        obtain ⟨b1, o1, rfl, e1⟩ := Ty.rd_byte_at (Ty.rd_below hb h1) hlt
        obtain ⟨b2, o2, rfl, e2⟩ := Ty.rd_byte_at (Ty.rd_below hb h2) hlt2
        by_cases he : x[k] = y[k]
        · have q2 : ((x[k].toNat : Int) != y[k].toNat) = false := by simp [he]
          have HE := Lib.hid he
          clear he
          go_wp2
          go_quiet (fail)
          go_wp2
          go_roundw
          case rel => exact ⟨k + 1, by omega, by go_num, by rw [List.take_succ_eq_append_getElem hlt, List.take_succ_eq_append_getElem hlt2, HT.out, HE.out], bel_drewN hb _⟩
          case measure => simp [intOf]; omega
        · have q2 : ((x[k].toNat : Int) != y[k].toNat) = true := by
            rw [bne_iff_ne]
            intro h
            exact he (UInt8.toNat_inj.1 (by omega))
          have HE : Hid (¬ x = y) := fun h => he (by subst h; rfl)
          clear he
          go_wp2
          go_quiet (fail)
          go_wp2
          go_ret
          exact ⟨ret_bool (by simp [HE.out]), bel_drewN hb _⟩
      · have HE : Hid (x = y) := by
          have h1 := HT.out
          rwa [List.take_of_length_le (by omega), List.take_of_length_le (by have := HL.out; omega)] at h1
        go_wp2
        go_ret
        exact ⟨ret_bool (by simp [HE.out]), hb⟩
  · have q1 : ((x.length : Int) != y.length) = true := by rw [bne_iff_ne]; omega
    have HE : Hid (¬ x = y) := fun h => hl (congrArg List.length h)
    go_enter Try.func89, Try.ntmps89
    go_wp2
    go_ret
    exact ⟨ret_bool (by simp [HE.out]), Below.refl _ _⟩
set_option maxHeartbeats 1000000 in
theorem C_impl_EqualData (w : World) (cs1 : List Value) (x : tData.D) (cs2 : List Value) (y : tData.D) (h1 : tData.rd w cs1 x) (h2 : tData.rd w cs2 y) (s0 : Ty.bulk tData x ≤ 1048576) (s1 : Ty.bulk tData y ≤ 1048576) :
    Calls Try.prog 59 #[.agg cs1.toArray, .agg cs2.toArray] w (RetB w (f_EqualData x y)) := by
  obtain ⟨A0, c0, A1, c1, A2, c2, rfl, g0, g1, g2, _, _⟩ := rd_Data h1
  obtain ⟨B0, d0, B1, d1, B2, d2, rfl, k0, k1, k2, _, _⟩ := rd_Data h2
  go_enter Try.func59, Try.ntmps59
  go_wp2_with fail
  refine (C_impl_EqualNames _ _ _ _ _ (Ty.rd_below (by repeat' (first | (with_reducible exact Below.refl _ _) | (with_reducible assumption) | (with_reducible refine bel_set ?_ (by (try dsimp only); omega) _) | (with_reducible refine bel_alloc ?_ _) | (with_reducible refine bel_drewN ?_ _) | (with_reducible refine bel_drew ?_))) g0) (Ty.rd_below (by repeat' (first | (with_reducible exact Below.refl _ _) | (with_reducible assumption) | (with_reducible refine bel_set ?_ (by (try dsimp only); omega) _) | (with_reducible refine bel_alloc ?_ _) | (with_reducible refine bel_drewN ?_ _) | (with_reducible refine bel_drew ?_))) k0)).mono ?_
  rintro e w1 ⟨rfl, hb1⟩
  have hw1 : Below w.heap.size w w1 := bel_trans (by repeat' (first | (with_reducible exact Below.refl _ _) | (with_reducible assumption) | (with_reducible refine bel_set ?_ (by (try dsimp only); omega) _) | (with_reducible refine bel_alloc ?_ _) | (with_reducible refine bel_drewN ?_ _) | (with_reducible refine bel_drew ?_))) hb1
  obtain ⟨hc1, hf1⟩ := bcell hb1
  have z10 : w.heap.size < w1.heap.size := by have := hb1.size; simp only [World.size_alloc] at this; omega
  have z11 : w.heap.size + 1 < w1.heap.size := by have := hb1.size; simp only [World.size_alloc] at this; omega
  cases hq0 : decide (x.1 = y.1)
  · go_wp2
    go_ret
    exact ⟨ret_bool (by unfold f_EqualData; rw [hq0]; rfl), hw1⟩
  go_wp2_with fail
  refine (C_slices_Equal_byte _ _ _ x.2.1 y.2.1 (Ty.rd_below (by repeat' (first | (with_reducible exact Below.refl _ _) | (with_reducible assumption) | (with_reducible refine bel_set ?_ (by (try dsimp only); omega) _) | (with_reducible refine bel_alloc ?_ _) | (with_reducible refine bel_drewN ?_ _) | (with_reducible refine bel_drew ?_))) g1) (Ty.rd_below (by repeat' (first | (with_reducible exact Below.refl _ _) | (with_reducible assumption) | (with_reducible refine bel_set ?_ (by (try dsimp only); omega) _) | (with_reducible refine bel_alloc ?_ _) | (with_reducible refine bel_drewN ?_ _) | (with_reducible refine bel_drew ?_))) k1)).mono ?_
  rintro e w2 ⟨rfl, hb2⟩
  have hw2 : Below w.heap.size w w2 := bel_trans (by repeat' (first | (with_reducible exact Below.refl _ _) | (with_reducible assumption) | (with_reducible refine bel_set ?_ (by (try dsimp only); omega) _) | (with_reducible refine bel_alloc ?_ _) | (with_reducible refine bel_drewN ?_ _) | (with_reducible refine bel_drew ?_))) hb2
  obtain ⟨hc2, hf2⟩ := bcell hb2
  have z20 : w.heap.size < w2.heap.size := by have := hb2.size; omega
  have z21 : w.heap.size + 1 < w2.heap.size := by have := hb2.size; omega
  cases hq1 : decide (x.2.1 = y.2.1)
  · go_wp2
    go_ret
    exact ⟨ret_bool (by unfold f_EqualData; rw [hq0, hq1]; rfl), hw2⟩
  go_wp2_with fail
  refine (C_impl_EqualNames _ _ _ _ _ (Ty.rd_below (by repeat' (first | (with_reducible exact Below.refl _ _) | (with_reducible assumption) | (with_reducible refine bel_set ?_ (by (try dsimp only); omega) _) | (with_reducible refine bel_alloc ?_ _) | (with_reducible refine bel_drewN ?_ _) | (with_reducible refine bel_drew ?_))) g2) (Ty.rd_below (by repeat' (first | (with_reducible exact Below.refl _ _) | (with_reducible assumption) | (with_reducible refine bel_set ?_ (by (try dsimp only); omega) _) | (with_reducible refine bel_alloc ?_ _) | (with_reducible refine bel_drewN ?_ _) | (with_reducible refine bel_drew ?_))) k2)).mono ?_
  rintro e w3 ⟨rfl, hb3⟩
  have hw3 : Below w.heap.size w w3 := bel_trans (by repeat' (first | (with_reducible exact Below.refl _ _) | (with_reducible assumption) | (with_reducible refine bel_set ?_ (by (try dsimp only); omega) _) | (with_reducible refine bel_alloc ?_ _) | (with_reducible refine bel_drewN ?_ _) | (with_reducible refine bel_drew ?_))) hb3
  obtain ⟨hc3, hf3⟩ := bcell hb3
  cases hq2 : decide (x.2.2.1 = y.2.2.1)
  · go_wp2
    go_ret
    exact ⟨ret_bool (by unfold f_EqualData; rw [hq0, hq1, hq2]; rfl), hw3⟩
  cases hq3 : (x.2.2.2.1 == y.2.2.2.1)
  · go_wp2
    go_ret
    exact ⟨ret_bool (by unfold f_EqualData; rw [hq0, hq1, hq2, show decide (x.2.2.2.1 = y.2.2.2.1) = false from by simpa using hq3]; rfl), hw3⟩
  go_wp2
  go_ret
  exact ⟨ret_bool (by unfold f_EqualData; rw [hq0, hq1, hq2, show decide (x.2.2.2.1 = y.2.2.2.1) = true from by simpa using hq3]; (rw [Bool.eq_iff_iff]; simp)), hw3⟩
end Go.Proofs.Ytldgbnlcnlfmeaa
