/- Texts of this claim, merged by a program: Smg Smk Jn Fmt Fks Lat. -/
import Derived.Test.YtldgbnlcnlfmeaaGreatMk0
import Derived.Test.YtldgbnlcnlfmeaaGreatMk3
import Derived.BigQuiet
import Derived.Deep.RegionHeld3
import Derived.Shelf.Strings.OnBuilder
import Derived.Test.YtldgbnlcnlfmeaaGreatMk1
import Derived.Lib.Join
import Derived.Laws.Concat
/- The laws' comparisons of any data. Printed by gen60.py. -/
namespace Go.Proofs.YtldgbnlcnlfmeaaGreat
open Go.RowKit
set_option linter.unusedVariables false
set_option linter.unusedSimpArgs false

set_option maxHeartbeats 1000000 in
theorem C_laws_sameG (w : World) (v1 v2 : Value) (x y : List (UInt8)) (h1 : (Ty.sl .byte).rd w [v1] x) (h2 : (Ty.sl .byte).rd w [v2] y) :
    Calls Tryz.prog 26 #[v1, v2] w (RetB w (decide (x = y))) := by
  obtain ⟨A1, c1, rfl, hc1, hm1, hn1⟩ := Ty.rd_sl h1
  obtain ⟨A2, c2, rfl, hc2, hm2, hn2⟩ := Ty.rd_sl h2
  by_cases hl : x.length = y.length
  · have q1 : ((x.length : Int) != y.length) = false := by simp [hl]
    have HL := Lib.hid hl
    clear hl
    go_enter Tryz.func26, Tryz.ntmps26
    go_wp2
    go_loopw [5] (fun i wr => ∃ k : Nat, k ≤ x.length ∧ i = .int .i64 k ∧ x.take k = y.take k ∧ Below w.heap.size w wr) (fun i _ => x.length - (intOf i).toNat)
    case atStart => exact ⟨0, by omega, rfl, rfl, Below.refl _ _⟩
    case round =>
      obtain ⟨k, hk, rfl, htk, hb⟩ := hrel
      have HT := Lib.hid htk
      clear htk
      by_cases hlt : k < x.length
      · have hlt2 : k < y.length := by have := HL.out; omega
        obtain ⟨b1, o1, rfl, e1⟩ := Ty.rd_byte_at (Ty.rd_below hb h1) hlt
        obtain ⟨b2, o2, rfl, e2⟩ := Ty.rd_byte_at (Ty.rd_below hb h2) hlt2
        have i3 : (0 : Int) ≤ (k : Int) := by omega
        have i4 : (k : Int) < (List.length x : Int) := by omega
        have i5 : (k : Int) < (List.length y : Int) := by omega
        by_cases he : x[k] = y[k]
        · have q2 : ((x[k].toNat : Int) != y[k].toNat) = false := by simp [he]
          have HE := Lib.hid he
          clear he
          go_wp2
          go_quiet (fail)
          go_wp2
          go_roundw
          case rel => exact ⟨k + 1, by omega, by go_num, by rw [List.take_succ_eq_append_getElem hlt, List.take_succ_eq_append_getElem hlt2, HT.out, HE.out], bel_drewN hb _⟩
          case measure => simp [intOf]; omega
        · have q2 : ((x[k].toNat : Int) != y[k].toNat) = true := by rw [bne_iff_ne]; intro h; exact he (UInt8.toNat_inj.1 (by omega))
          have HE : Hid (¬ x = y) := fun h => he (by subst h; rfl)
          clear he
          go_wp2
          go_quiet (fail)
          go_wp2
          go_ret
          exact ⟨ret_bool (by simp [HE.out]), bel_drewN hb _⟩
      · have HE : Hid (x = y) := by
          have h1 := HT.out
          rwa [List.take_of_length_le (by omega), List.take_of_length_le (by have := HL.out; omega)] at h1
        go_wp2
        go_ret
        exact ⟨ret_bool (by simp [HE.out]), hb⟩
  · have q1 : ((x.length : Int) != y.length) = true := by rw [bne_iff_ne]; omega
    have HE : Hid (¬ x = y) := fun h => hl (congrArg List.length h)
    go_enter Tryz.func26, Tryz.ntmps26
    go_wp2
    go_ret
    exact ⟨ret_bool (by simp [HE.out]), Below.refl _ _⟩
set_option maxHeartbeats 1000000 in
theorem C_laws_sameIntsG (w : World) (v1 v2 : Value) (x y : List (Int)) (h1 : (Ty.sl .int).rd w [v1] x) (h2 : (Ty.sl .int).rd w [v2] y) :
    Calls Tryz.prog 43 #[v1, v2] w (RetB w (decide (x = y))) := by
  obtain ⟨A1, c1, rfl, hc1, hm1, hn1⟩ := Ty.rd_sl h1
  obtain ⟨A2, c2, rfl, hc2, hm2, hn2⟩ := Ty.rd_sl h2
  by_cases hl : x.length = y.length
  · have q1 : ((x.length : Int) != y.length) = false := by simp [hl]
    have HL := Lib.hid hl
    clear hl
    go_enter Tryz.func43, Tryz.ntmps43
    go_wp2
    go_loopw [5] (fun i wr => ∃ k : Nat, k ≤ x.length ∧ i = .int .i64 k ∧ x.take k = y.take k ∧ Below w.heap.size w wr) (fun i _ => x.length - (intOf i).toNat)
    case atStart => exact ⟨0, by omega, rfl, rfl, Below.refl _ _⟩
    case round =>
      obtain ⟨k, hk, rfl, htk, hb⟩ := hrel
      have HT := Lib.hid htk
      clear htk
      by_cases hlt : k < x.length
      · have hlt2 : k < y.length := by have := HL.out; omega
        obtain ⟨b1, o1, ds1, rfl, hl1, hcell1, hrd1⟩ := Ty.rd_at (Ty.rd_below hb h1) hlt
        obtain ⟨rfl, hs1⟩ := hrd1
        have e0 : wr.cell? ⟨b1, o1 + k, none⟩ = some (.int .i64 x[k]) := by simpa [Ty.sz] using hcell1 0 (by decide)
        clear hcell1 hl1
        obtain ⟨b2, o2, ds2, rfl, hl2, hcell2, hrd2⟩ := Ty.rd_at (Ty.rd_below hb h2) hlt2
        obtain ⟨rfl, hs2⟩ := hrd2
        have d0 : wr.cell? ⟨b2, o2 + k, none⟩ = some (.int .i64 y[k]) := by simpa [Ty.sz] using hcell2 0 (by decide)
        clear hcell2 hl2
        have i3 : (0 : Int) ≤ (k : Int) := by omega
        have i4 : (k : Int) < (List.length x : Int) := by omega
        have i5 : (k : Int) < (List.length y : Int) := by omega
        by_cases he : x[k] = y[k]
        · have q2 : (x[k] != y[k]) = false := by simp [he]
          have HE := Lib.hid he
          clear he
          go_wp2
          go_quiet (fail)
          go_wp2
          go_roundw
          case rel => exact ⟨k + 1, by omega, by go_num, by rw [List.take_succ_eq_append_getElem hlt, List.take_succ_eq_append_getElem hlt2, HT.out, HE.out], bel_drewN hb _⟩
          case measure => simp [intOf]; omega
        · have q2 : (x[k] != y[k]) = true := by rw [bne_iff_ne]; exact he
          have HE : Hid (¬ x = y) := fun h => he (by subst h; rfl)
          clear he
          go_wp2
          go_quiet (fail)
          go_wp2
          go_ret
          exact ⟨ret_bool (by simp [HE.out]), bel_drewN hb _⟩
      · have HE : Hid (x = y) := by
          have h1 := HT.out
          rwa [List.take_of_length_le (by omega), List.take_of_length_le (by have := HL.out; omega)] at h1
        go_wp2
        go_ret
        exact ⟨ret_bool (by simp [HE.out]), hb⟩
  · have q1 : ((x.length : Int) != y.length) = true := by rw [bne_iff_ne]; omega
    have HE : Hid (¬ x = y) := fun h => hl (congrArg List.length h)
    go_enter Tryz.func43, Tryz.ntmps43
    go_wp2
    go_ret
    exact ⟨ret_bool (by simp [HE.out]), Below.refl _ _⟩
set_option maxHeartbeats 1000000 in
theorem C_laws_sameTextsG (w : World) (v1 v2 : Value) (x y : List (List UInt8)) (h1 : (Ty.sl .str).rd w [v1] x) (h2 : (Ty.sl .str).rd w [v2] y) :
    Calls Tryz.prog 87 #[v1, v2] w (RetB w (decide (x = y))) := by
  obtain ⟨A1, c1, rfl, hc1, hm1, hn1⟩ := Ty.rd_sl h1
  obtain ⟨A2, c2, rfl, hc2, hm2, hn2⟩ := Ty.rd_sl h2
  by_cases hl : x.length = y.length
  · have q1 : ((x.length : Int) != y.length) = false := by simp [hl]
    have HL := Lib.hid hl
    clear hl
    go_enter Tryz.func87, Tryz.ntmps87
    go_wp2
    go_loopw [5] (fun i wr => ∃ k : Nat, k ≤ x.length ∧ i = .int .i64 k ∧ x.take k = y.take k ∧ Below w.heap.size w wr) (fun i _ => x.length - (intOf i).toNat)
    case atStart => exact ⟨0, by omega, rfl, rfl, Below.refl _ _⟩
    case round =>
      obtain ⟨k, hk, rfl, htk, hb⟩ := hrel
      have HT := Lib.hid htk
      clear htk
      by_cases hlt : k < x.length
      · have hlt2 : k < y.length := by have := HL.out; omega
        obtain ⟨b1, o1, rfl, e1, _⟩ := Ty.rd_str_at (Ty.rd_below hb h1) hlt
        obtain ⟨b2, o2, rfl, e2, _⟩ := Ty.rd_str_at (Ty.rd_below hb h2) hlt2
        have i3 : (0 : Int) ≤ (k : Int) := by omega
        have i4 : (k : Int) < (List.length x : Int) := by omega
        have i5 : (k : Int) < (List.length y : Int) := by omega
        by_cases he : x[k] = y[k]
        · have q2 : (!x[k] == y[k]) = false := by simp [he]
          have HE := Lib.hid he
          clear he
          go_wp2
          go_quiet (fail)
          go_wp2
          go_roundw
          case rel => exact ⟨k + 1, by omega, by go_num, by rw [List.take_succ_eq_append_getElem hlt, List.take_succ_eq_append_getElem hlt2, HT.out, HE.out], bel_drewN hb _⟩
          case measure => simp [intOf]; omega
        · have q2 : (!x[k] == y[k]) = true := by simp [he]
          have HE : Hid (¬ x = y) := fun h => he (by subst h; rfl)
          clear he
          go_wp2
          go_quiet (fail)
          go_wp2
          go_ret
          exact ⟨ret_bool (by simp [HE.out]), bel_drewN hb _⟩
      · have HE : Hid (x = y) := by
          have h1 := HT.out
          rwa [List.take_of_length_le (by omega), List.take_of_length_le (by have := HL.out; omega)] at h1
        go_wp2
        go_ret
        exact ⟨ret_bool (by simp [HE.out]), hb⟩
  · have q1 : ((x.length : Int) != y.length) = true := by rw [bne_iff_ne]; omega
    have HE : Hid (¬ x = y) := fun h => hl (congrArg List.length h)
    go_enter Tryz.func87, Tryz.ntmps87
    go_wp2
    go_ret
    exact ⟨ret_bool (by simp [HE.out]), Below.refl _ _⟩
set_option maxHeartbeats 1000000 in
theorem C_laws_sameNameG (w : World) (cs1 cs2 : List Value) (x y : List (List UInt8)) (h1 : (Ty.sl .str).rd w cs1 x) (h2 : (Ty.sl .str).rd w cs2 y) :
    Calls Tryz.prog 29 #[.agg cs1.toArray, .agg cs2.toArray] w (RetB w (decide (x = y))) := by
  obtain ⟨A1, c1, rfl⟩ := Ty.rd_slv h1
  obtain ⟨A2, c2, rfl⟩ := Ty.rd_slv h2
  go_enter Tryz.func29, Tryz.ntmps29
  go_wp2_with fail
  refine (C_laws_sameTextsG _ _ _ _ _ (Ty.rd_below (by repeat' (first | (with_reducible exact Below.refl _ _) | (with_reducible assumption) | (with_reducible refine bel_set ?_ (by (try dsimp only); omega) _) | (with_reducible refine bel_alloc ?_ _) | (with_reducible refine bel_drewN ?_ _) | (with_reducible refine bel_drew ?_))) h1) (Ty.rd_below (by repeat' (first | (with_reducible exact Below.refl _ _) | (with_reducible assumption) | (with_reducible refine bel_set ?_ (by (try dsimp only); omega) _) | (with_reducible refine bel_alloc ?_ _) | (with_reducible refine bel_drewN ?_ _) | (with_reducible refine bel_drew ?_))) h2)).mono ?_
  rintro e w1 ⟨rfl, hb1⟩
  have hw1 : Below w.heap.size w w1 := bel_trans (by repeat' (first | (with_reducible exact Below.refl _ _) | (with_reducible assumption) | (with_reducible refine bel_set ?_ (by (try dsimp only); omega) _) | (with_reducible refine bel_alloc ?_ _) | (with_reducible refine bel_drewN ?_ _) | (with_reducible refine bel_drew ?_))) hb1
  go_wp2
  go_ret
  exact ⟨rfl, (by repeat' (first | (with_reducible exact Below.refl _ _) | (with_reducible assumption) | (with_reducible refine bel_set ?_ (by (try dsimp only); omega) _) | (with_reducible refine bel_alloc ?_ _) | (with_reducible refine bel_drewN ?_ _) | (with_reducible refine bel_drew ?_)))⟩
set_option maxHeartbeats 1000000 in
theorem C_laws_sameThingG (w : World) (cs1 : List Value) (x : tData.D) (cs2 : List Value) (y : tData.D) (h1 : tData.rd w cs1 x) (h2 : tData.rd w cs2 y) (s0 : Ty.bulk tData x ≤ 1048576) (s1 : Ty.bulk tData y ≤ 1048576) :
    Calls Tryz.prog 25 #[.agg cs1.toArray, .agg cs2.toArray] w (RetB w (f_EqualData x y)) := by
  obtain ⟨A0, c0, A1, c1, A2, c2, rfl, g0, g1, g2, _, _⟩ := rd_Data h1
  obtain ⟨B0, d0, B1, d1, B2, d2, rfl, k0, k1, k2, _, _⟩ := rd_Data h2
  go_enter Tryz.func25, Tryz.ntmps25
  go_wp2_with fail
  refine (C_laws_sameNameG _ _ _ _ _ (Ty.rd_below (by repeat' (first | (with_reducible exact Below.refl _ _) | (with_reducible assumption) | (with_reducible refine bel_set ?_ (by (try dsimp only); omega) _) | (with_reducible refine bel_alloc ?_ _) | (with_reducible refine bel_drewN ?_ _) | (with_reducible refine bel_drew ?_))) g0) (Ty.rd_below (by repeat' (first | (with_reducible exact Below.refl _ _) | (with_reducible assumption) | (with_reducible refine bel_set ?_ (by (try dsimp only); omega) _) | (with_reducible refine bel_alloc ?_ _) | (with_reducible refine bel_drewN ?_ _) | (with_reducible refine bel_drew ?_))) k0)).mono ?_
  rintro e w1 ⟨rfl, hb1⟩
  have hw1 : Below w.heap.size w w1 := bel_trans (by repeat' (first | (with_reducible exact Below.refl _ _) | (with_reducible assumption) | (with_reducible refine bel_set ?_ (by (try dsimp only); omega) _) | (with_reducible refine bel_alloc ?_ _) | (with_reducible refine bel_drewN ?_ _) | (with_reducible refine bel_drew ?_))) hb1
  obtain ⟨hc1, hf1⟩ := bcell hb1
  have z10 : w.heap.size < w1.heap.size := by have := hb1.size; simp only [World.size_alloc] at this; omega
  have z11 : w.heap.size + 1 < w1.heap.size := by have := hb1.size; simp only [World.size_alloc] at this; omega
  cases hq0 : decide (x.1 = y.1)
  · go_wp2
    go_ret
    exact ⟨ret_bool (by unfold f_EqualData; rw [hq0]; rfl), hw1⟩
  go_wp2_with fail
  refine (C_laws_sameG _ _ _ x.2.1 y.2.1 (Ty.rd_below (by repeat' (first | (with_reducible exact Below.refl _ _) | (with_reducible assumption) | (with_reducible refine bel_set ?_ (by (try dsimp only); omega) _) | (with_reducible refine bel_alloc ?_ _) | (with_reducible refine bel_drewN ?_ _) | (with_reducible refine bel_drew ?_))) g1) (Ty.rd_below (by repeat' (first | (with_reducible exact Below.refl _ _) | (with_reducible assumption) | (with_reducible refine bel_set ?_ (by (try dsimp only); omega) _) | (with_reducible refine bel_alloc ?_ _) | (with_reducible refine bel_drewN ?_ _) | (with_reducible refine bel_drew ?_))) k1)).mono ?_
  rintro e w2 ⟨rfl, hb2⟩
  have hw2 : Below w.heap.size w w2 := bel_trans (by repeat' (first | (with_reducible exact Below.refl _ _) | (with_reducible assumption) | (with_reducible refine bel_set ?_ (by (try dsimp only); omega) _) | (with_reducible refine bel_alloc ?_ _) | (with_reducible refine bel_drewN ?_ _) | (with_reducible refine bel_drew ?_))) hb2
  obtain ⟨hc2, hf2⟩ := bcell hb2
  have z20 : w.heap.size < w2.heap.size := by have := hb2.size; omega
  have z21 : w.heap.size + 1 < w2.heap.size := by have := hb2.size; omega
  cases hq1 : decide (x.2.1 = y.2.1)
  · go_wp2
    go_ret
    exact ⟨ret_bool (by unfold f_EqualData; rw [hq0, hq1]; rfl), hw2⟩
  go_wp2_with fail
  refine (C_laws_sameNameG _ _ _ _ _ (Ty.rd_below (by repeat' (first | (with_reducible exact Below.refl _ _) | (with_reducible assumption) | (with_reducible refine bel_set ?_ (by (try dsimp only); omega) _) | (with_reducible refine bel_alloc ?_ _) | (with_reducible refine bel_drewN ?_ _) | (with_reducible refine bel_drew ?_))) g2) (Ty.rd_below (by repeat' (first | (with_reducible exact Below.refl _ _) | (with_reducible assumption) | (with_reducible refine bel_set ?_ (by (try dsimp only); omega) _) | (with_reducible refine bel_alloc ?_ _) | (with_reducible refine bel_drewN ?_ _) | (with_reducible refine bel_drew ?_))) k2)).mono ?_
  rintro e w3 ⟨rfl, hb3⟩
  have hw3 : Below w.heap.size w w3 := bel_trans (by repeat' (first | (with_reducible exact Below.refl _ _) | (with_reducible assumption) | (with_reducible refine bel_set ?_ (by (try dsimp only); omega) _) | (with_reducible refine bel_alloc ?_ _) | (with_reducible refine bel_drewN ?_ _) | (with_reducible refine bel_drew ?_))) hb3
  obtain ⟨hc3, hf3⟩ := bcell hb3
  cases hq2 : decide (x.2.2.1 = y.2.2.1)
  · go_wp2
    go_ret
    exact ⟨ret_bool (by unfold f_EqualData; rw [hq0, hq1, hq2]; rfl), hw3⟩
  cases hq3 : (x.2.2.2.1 == y.2.2.2.1)
  · go_wp2
    go_ret
    exact ⟨ret_bool (by unfold f_EqualData; rw [hq0, hq1, hq2, show decide (x.2.2.2.1 = y.2.2.2.1) = false from by simpa using hq3]; rfl), hw3⟩
  go_wp2
  go_ret
  exact ⟨ret_bool (by unfold f_EqualData; rw [hq0, hq1, hq2, show decide (x.2.2.2.1 = y.2.2.2.1) = true from by simpa using hq3]; (rw [Bool.eq_iff_iff]; simp)), hw3⟩
end Go.Proofs.YtldgbnlcnlfmeaaGreat

/- The laws' comparison of keys. Printed by gen69.py. -/
namespace Go.Proofs.YtldgbnlcnlfmeaaGreat
open Go.RowKit
set_option linter.unusedVariables false
set_option linter.unusedSimpArgs false

set_option maxHeartbeats 1000000 in
theorem C_laws_sameKeys (w : World) (v1 v2 : Value) (x : List (Ty.D tKey)) (h1 : (Ty.sl tKey).rd w [v1] x) (h2 : (Ty.sl tKey).rd w [v2] x) :
    Calls Tryz.prog 46 #[v1, v2] w (RetB w true) := by
  obtain ⟨A1, c1, rfl, hc1, hm1, hn1⟩ := Ty.rd_sl h1
  obtain ⟨A2, c2, rfl, hc2, hm2, hn2⟩ := Ty.rd_sl h2
  have hne : ((x.length : Int) != x.length) = false := by simp
  go_enter Tryz.func46, Tryz.ntmps46
  go_wp2
  go_loopw [5] (fun i wr => ∃ k : Nat, k ≤ x.length ∧ i = .int .i64 k ∧ Below w.heap.size w wr) (fun i _ => x.length - (intOf i).toNat)
  case atStart => exact ⟨0, by omega, rfl, Below.refl _ _⟩
  case round =>
    obtain ⟨k, hk, rfl, hb⟩ := hrel
    by_cases hlt : k < x.length
    · obtain ⟨b1, o1, ds1, rfl, hl1, hcell1, hrd1⟩ := Ty.rd_at (Ty.rd_below hb h1) hlt
      obtain ⟨Aa, ca, rfl, sag0, sag1⟩ := rd_Key hrd1
      have e0 : wr.cell? ⟨b1, o1 + k * 2, none⟩ = some (.slice Aa (List.length x[k].1) ca) := by simpa [Ty.sz] using hcell1 0 (by decide)
      have e1 : wr.cell? ⟨b1, o1 + k * 2 + 1, none⟩ = some (.int .i64 x[k].2) := by simpa [Ty.sz] using hcell1 1 (by decide)
      clear hcell1 hl1
      obtain ⟨b2, o2, ds2, rfl, hl2, hcell2, hrd2⟩ := Ty.rd_at (Ty.rd_below hb h2) hlt
      obtain ⟨Ab, cb, rfl, tbg0, tbg1⟩ := rd_Key hrd2
      have d0 : wr.cell? ⟨b2, o2 + k * 2, none⟩ = some (.slice Ab (List.length x[k].1) cb) := by simpa [Ty.sz] using hcell2 0 (by decide)
      have d1 : wr.cell? ⟨b2, o2 + k * 2 + 1, none⟩ = some (.int .i64 x[k].2) := by simpa [Ty.sz] using hcell2 1 (by decide)
      clear hcell2 hl2
      have i3 : (0 : Int) ≤ (k : Int) := by omega
      have i4 : (k : Int) < (List.length x : Int) := by omega
      have z1 : b1 < wr.heap.size := World.block_lt_of_cell? _ _ e0
      have z2 : b2 < wr.heap.size := World.block_lt_of_cell? _ _ d0
      have HS : Hid (∀ W, Below wr.heap.size wr W → Below w.heap.size w W ∧ W.cell? ⟨b1, o1 + k * 2, none⟩ = some (.slice Aa (List.length x[k].1) ca) ∧ W.cell? ⟨b1, o1 + k * 2 + 1, none⟩ = some (.int .i64 x[k].2) ∧ W.cell? ⟨b2, o2 + k * 2, none⟩ = some (.slice Ab (List.length x[k].1) cb) ∧ W.cell? ⟨b2, o2 + k * 2 + 1, none⟩ = some (.int .i64 x[k].2)) := fun W hW =>
        ⟨bel_trans hb hW, (hW.cell (p := ⟨b1, _, none⟩) z1).trans e0, (hW.cell (p := ⟨b1, _, none⟩) z1).trans e1, (hW.cell (p := ⟨b2, _, none⟩) z2).trans d0, (hW.cell (p := ⟨b2, _, none⟩) z2).trans d1⟩
      go_wp2_with fail
      refine wp_region_noPanic ?_
      refine wp_region_held_drew (S := (fun W => Below w.heap.size w W ∧ W.cell? ⟨b1, o1 + k * 2, none⟩ = some (.slice Aa (List.length x[k].1) ca) ∧ W.cell? ⟨b1, o1 + k * 2 + 1, none⟩ = some (.int .i64 x[k].2) ∧ W.cell? ⟨b2, o2 + k * 2, none⟩ = some (.slice Ab (List.length x[k].1) cb) ∧ W.cell? ⟨b2, o2 + k * 2 + 1, none⟩ = some (.int .i64 x[k].2))) (by kernel_rfl) ?_ (fun hHeld => ?_)
      · exact HS.out _ (by repeat' (first | (with_reducible exact Below.refl _ _) | (with_reducible assumption) | (with_reducible refine bel_set ?_ (by (try dsimp only); omega) _) | (with_reducible refine bel_alloc ?_ _) | (with_reducible refine bel_drewN ?_ _) | (with_reducible refine bel_drew ?_)))
      refine tk 0 (opN rfl) (by kernel_rfl) (by rfl) (by (intro w hSw; (try dsimp only at hSw); go_simp; first | done | with_reducible rfl)) (by assumption) ?_
      try simp only [Act.put, List.setIfInBounds_toArray, List.set_cons_zero, List.set_cons_succ]
      refine tk 1 (opN rfl) (by kernel_rfl) (by rfl) (by (intro w hSw; (try dsimp only at hSw); go_simp; first | done | with_reducible rfl)) (by assumption) ?_
      try simp only [Act.put, List.setIfInBounds_toArray, List.set_cons_zero, List.set_cons_succ]
      refine tk 2 (opN rfl) (by kernel_rfl) (by rfl) (by (intro w hSw; (try dsimp only at hSw); go_simp; first | done | with_reducible rfl)) (by assumption) ?_
      try simp only [Act.put, List.setIfInBounds_toArray, List.set_cons_zero, List.set_cons_succ]
      refine tk 3 (opN rfl) (by kernel_rfl) (by rfl) (by (intro w hSw; (try dsimp only at hSw); go_simp; first | done | with_reducible rfl)) (by assumption) ?_
      try simp only [Act.put, List.setIfInBounds_toArray, List.set_cons_zero, List.set_cons_succ]
      refine tk 4 (opN rfl) (by kernel_rfl) (by rfl) (by (intro w hSw; (try dsimp only at hSw); go_simp; first | done | with_reducible rfl)) (by assumption) ?_
      try simp only [Act.put, List.setIfInBounds_toArray, List.set_cons_zero, List.set_cons_succ]
      refine tk 5 (opN rfl) (by kernel_rfl) (by rfl) (by (intro w hSw; (try dsimp only at hSw); go_simp; first | done | with_reducible rfl)) (by assumption) ?_
      try simp only [Act.put, List.setIfInBounds_toArray, List.set_cons_zero, List.set_cons_succ]
      refine tk 6 (opN rfl) (by kernel_rfl) (by rfl) (by (intro w hSw; (try dsimp only at hSw); go_simp; first | done | with_reducible rfl)) (by assumption) ?_
      try simp only [Act.put, List.setIfInBounds_toArray, List.set_cons_zero, List.set_cons_succ]
      refine tk 7 (opN rfl) (by kernel_rfl) (by rfl) (by (intro w hSw; (try dsimp only at hSw); go_simp; first | done | with_reducible rfl)) (by assumption) ?_
      try simp only [Act.put, List.setIfInBounds_toArray, List.set_cons_zero, List.set_cons_succ]
      refine tk 8 (opN rfl) (by kernel_rfl) (by rfl) (by (intro w hSw; (try dsimp only at hSw); go_simp; first | done | with_reducible rfl)) (by assumption) ?_
      try simp only [Act.put, List.setIfInBounds_toArray, List.set_cons_zero, List.set_cons_succ]
      refine tk 9 (opN rfl) (by kernel_rfl) (by rfl) (by (intro w hSw; (try dsimp only at hSw); go_simp; first | done | with_reducible rfl)) (by assumption) ?_
      try simp only [Act.put, List.setIfInBounds_toArray, List.set_cons_zero, List.set_cons_succ]
      refine tk 10 (opN rfl) (by kernel_rfl) (by rfl) (by (intro w hSw; (try dsimp only at hSw); go_simp; first | done | with_reducible rfl)) (by assumption) ?_
      try simp only [Act.put, List.setIfInBounds_toArray, List.set_cons_zero, List.set_cons_succ]
      refine tk 11 (opN rfl) (by kernel_rfl) (by rfl) (by (intro w hSw; (try dsimp only at hSw); go_simp; first | done | with_reducible rfl)) (by assumption) ?_
      try simp only [Act.put, List.setIfInBounds_toArray, List.set_cons_zero, List.set_cons_succ]
      refine tk 12 (opN rfl) (by kernel_rfl) (by rfl) (by (intro w hSw; (try dsimp only at hSw); go_simp; first | done | with_reducible rfl)) (by assumption) ?_
      try simp only [Act.put, List.setIfInBounds_toArray, List.set_cons_zero, List.set_cons_succ]
      refine tk 13 (opN rfl) (by kernel_rfl) (by rfl) (by (intro w hSw; (try dsimp only at hSw); go_simp; first | done | with_reducible rfl)) (by assumption) ?_
      try simp only [Act.put, List.setIfInBounds_toArray, List.set_cons_zero, List.set_cons_succ]
      refine tk 14 (opN rfl) (by kernel_rfl) (by rfl) (by (intro w hSw; (try dsimp only at hSw); go_simp; first | done | with_reducible rfl)) (by assumption) ?_
      try simp only [Act.put, List.setIfInBounds_toArray, List.set_cons_zero, List.set_cons_succ]
      refine tk 15 (opN rfl) (by kernel_rfl) (by rfl) (by (intro w hSw; (try dsimp only at hSw); go_simp; first | done | with_reducible rfl)) (by assumption) ?_
      try simp only [Act.put, List.setIfInBounds_toArray, List.set_cons_zero, List.set_cons_succ]
      refine tk 16 (opN rfl) (by kernel_rfl) (by rfl) (by (intro w hSw; (try dsimp only at hSw); go_simp; first | done | with_reducible rfl)) (by assumption) ?_
      try simp only [Act.put, List.setIfInBounds_toArray, List.set_cons_zero, List.set_cons_succ]
      refine tk 17 (opN rfl) (by kernel_rfl) (by rfl) (by (intro w hSw; (try dsimp only at hSw); go_simp; first | done | with_reducible rfl)) (by assumption) ?_
      try simp only [Act.put, List.setIfInBounds_toArray, List.set_cons_zero, List.set_cons_succ]
      refine tk 18 (opN rfl) (by kernel_rfl) (by rfl) (by (intro w hSw; (try dsimp only at hSw); go_simp; first | done | with_reducible rfl)) (by assumption) ?_
      try simp only [Act.put, List.setIfInBounds_toArray, List.set_cons_zero, List.set_cons_succ]
      refine tk 19 (opN rfl) (by kernel_rfl) (by rfl) (by (intro w hSw; (try dsimp only at hSw); go_simp; first | done | with_reducible rfl)) (by assumption) ?_
      try simp only [Act.put, List.setIfInBounds_toArray, List.set_cons_zero, List.set_cons_succ]
      refine tk 20 (opN rfl) (by kernel_rfl) (by rfl) (by (intro w hSw; (try dsimp only at hSw); go_simp; first | done | with_reducible rfl)) (by assumption) ?_
      try simp only [Act.put, List.setIfInBounds_toArray, List.set_cons_zero, List.set_cons_succ]
      refine tk 21 (opN rfl) (by kernel_rfl) (by rfl) (by (intro w hSw; (try dsimp only at hSw); go_simp; first | done | with_reducible rfl)) (by assumption) ?_
      try simp only [Act.put, List.setIfInBounds_toArray, List.set_cons_zero, List.set_cons_succ]
      refine wpAnyH_ready (rs := [22]) (by kernel_rfl) (by simp) ?_
      refine AllReadyH.cons (opN rfl) (fun K hK => ?_) AllReadyH.nil
      go_simp
      go_at_call 29
      refine (C_laws_sameNameG _ _ _ x[k].1 x[k].1 (Ty.rd_below (by repeat' (first | (with_reducible exact Below.refl _ _) | (with_reducible assumption) | (with_reducible refine bel_set ?_ (by (try dsimp only); omega) _) | (with_reducible refine bel_alloc ?_ _) | (with_reducible refine bel_drewN ?_ _) | (with_reducible refine bel_drew ?_))) sag0) (Ty.rd_below (by repeat' (first | (with_reducible exact Below.refl _ _) | (with_reducible assumption) | (with_reducible refine bel_set ?_ (by (try dsimp only); omega) _) | (with_reducible refine bel_alloc ?_ _) | (with_reducible refine bel_drewN ?_ _) | (with_reducible refine bel_drew ?_))) tbg0)).mono ?_
      rw [show decide (x[k].1 = x[k].1) = true from by simp]
      rintro e w1 ⟨rfl, hb1⟩
      have hw1 : Below w.heap.size w w1 := bel_trans (by repeat' (first | (with_reducible exact Below.refl _ _) | (with_reducible assumption) | (with_reducible refine bel_set ?_ (by (try dsimp only); omega) _) | (with_reducible refine bel_alloc ?_ _) | (with_reducible refine bel_drewN ?_ _) | (with_reducible refine bel_drew ?_))) hb1
      have hv1 : Below wr.heap.size wr w1 := bel_trans (by repeat' (first | (with_reducible exact Below.refl _ _) | (with_reducible assumption) | (with_reducible refine bel_set ?_ (by (try dsimp only); omega) _) | (with_reducible refine bel_alloc ?_ _) | (with_reducible refine bel_drewN ?_ _) | (with_reducible refine bel_drew ?_))) hb1
      refine hK.out _ _ ?_ (fun hHeld => ?_)
      · (try dsimp only)
        exact HS.out _ hv1
      clear hK K
      try simp only [Act.put, List.setIfInBounds_toArray, List.set_cons_zero, List.set_cons_succ]
      refine tk 23 (opN rfl) (by kernel_rfl) (by rfl) (by (intro w hSw; (try dsimp only at hSw); go_simp; first | done | with_reducible rfl)) (by assumption) ?_
      try simp only [Act.put, List.setIfInBounds_toArray, List.set_cons_zero, List.set_cons_succ]
      refine tk 24 (opN rfl) (by kernel_rfl) (by rfl) (by (intro w hSw; (try dsimp only at hSw); go_simp; first | done | with_reducible rfl)) (by assumption) ?_
      try simp only [Act.put, List.setIfInBounds_toArray, List.set_cons_zero, List.set_cons_succ]
      refine wpAnyH_done (by kernel_rfl) ?_ _
      refine NoPanic.normal ?_
      go_wp2
      go_roundw
      case rel => exact ⟨k + 1, by omega, by go_num, hw1⟩
      case measure => simp [intOf]; omega
    · go_wp2
      go_ret
      exact ⟨rfl, hb⟩
end Go.Proofs.YtldgbnlcnlfmeaaGreat

/- Contracts of the library, laid at this program. Written by a tool of the kit, named by jn.py. -/
namespace Go.Proofs.YtldgbnlcnlfmeaaGreat
open Go.Shelf Go.RowKit
set_option linter.unusedVariables false

def lays156_ren : Go.Shelf.Ren := ⟨fun | 156 => 147 | 165 => 169 | 166 => 170 | 169 => 171 | 240 => 182 | 241 => 183 | 276 => 185 | 277 => 186 | n => n, fun | 31 => 30 | 9 => 9 | 3 => 3 | 4 => 4 | 0 => 0 | 20 => 20 | 72 => 164 | 76 => 168 | 70 => 162 | 37 => 22 | 75 => 167 | 127 => 180 | 164 => 182 | 5 => 5 | 80 => 170 | n => n, fun | n => n⟩
theorem lays156 : Go.Proofs.Lays.n156 Tryz.prog lays156_ren := {
  mixed := by kernel_rfl
  f156 := Tryz.func147.trans (congrArg some (by kernel_rfl))
  f165 := Tryz.func169.trans (congrArg some (by kernel_rfl))
  f166 := Tryz.func170.trans (congrArg some (by kernel_rfl))
  f169 := Tryz.func171.trans (congrArg some (by kernel_rfl))
  f240 := Tryz.func182.trans (congrArg some (by kernel_rfl))
  f241 := Tryz.func183.trans (congrArg some (by kernel_rfl))
  f276 := Tryz.func185.trans (congrArg some (by kernel_rfl))
  f277 := Tryz.func186.trans (congrArg some (by kernel_rfl))
  t0 := Tryz.underlying0
  a0 := Tryz.isAgg0
  z0 := Tryz.sizeOf0
  v0 := Tryz.zeroValue0
  t3 := Tryz.underlying3
  a3 := Tryz.isAgg3
  z3 := Tryz.sizeOf3
  v3 := Tryz.zeroValue3
  t4 := Tryz.underlying4
  a4 := Tryz.isAgg4
  z4 := Tryz.sizeOf4
  v4 := Tryz.zeroValue4
  t9 := Tryz.underlying9
  a9 := Tryz.isAgg9
  z9 := Tryz.sizeOf9
  v9 := Tryz.zeroValue9
  t20 := Tryz.underlying20
  a20 := Tryz.isAgg20
  z20 := Tryz.sizeOf20
  v20 := Tryz.zeroValue20
  t31 := Tryz.underlying30
  a31 := Tryz.isAgg30
  z31 := Tryz.sizeOf30
  v31 := Tryz.zeroValue30
  t37 := Tryz.underlying22
  a37 := Tryz.isAgg22
  z37 := Tryz.sizeOf22
  v37 := Tryz.zeroValue22
  t70 := Tryz.underlying162
  a70 := Tryz.isAgg162
  z70 := Tryz.sizeOf162
  v70 := Tryz.zeroValue162
  t72 := Tryz.underlying164
  a72 := Tryz.isAgg164
  z72 := Tryz.sizeOf164
  v72 := Tryz.zeroValue164
  t75 := Tryz.underlying167
  a75 := Tryz.isAgg167
  z75 := Tryz.sizeOf167
  v75 := Tryz.zeroValue167
  t76 := Tryz.underlying168
  a76 := Tryz.isAgg168
  z76 := Tryz.sizeOf168
  v76 := Tryz.zeroValue168
  t127 := Tryz.underlying180
  a127 := Tryz.isAgg180
  z127 := Tryz.sizeOf180
  v127 := Tryz.zeroValue180
  t164 := Tryz.underlying182
  a164 := Tryz.isAgg182
  z164 := Tryz.sizeOf182
  v164 := Tryz.zeroValue182 }
theorem Builder_Extra_156 : Builder.Extra Tryz.prog lays156_ren := {
  sizeBuilder := by kernel_rfl
  liesBuilder := by kernel_rfl
  t5 := Tryz.underlying5
  a5 := Tryz.isAgg5
  z5 := Tryz.sizeOf5
  v5 := Tryz.zeroValue5
  infoByte := by kernel_rfl
  cellsByte := by kernel_rfl
  sizeByte := by kernel_rfl
  neB5 := by decide }
theorem strings_Join_none (a : Option Addr) (c : Nat) (sep : ByteArray) (w : World) :
    Calls Tryz.prog 147 #[.slice a 0 c, .string sep] w fun e w' => e = .returned (.string ⟨#[]⟩) ∧ w' = w := Any.strings_Join_none lays156 Builder_Extra_156 a c sep w
theorem strings_Join (bk o c : Nat) (xs : List ByteArray) (sep : ByteArray) (w : World) (hcells : ∀ (j : Nat) x, xs[j]? = some x → w.cell? ⟨bk, o + j, none⟩ = some (.string x)) (hbk : bk < w.heap.size) (hN : xs.length ≤ 140737488355328) (hcap : xs.length ≤ c) (hlen : (Lib.join (xs.map (·.data.toList)) sep.data.toList).length ≤ 140737488355328) :
    Calls Tryz.prog 147 #[.slice (some ⟨bk, o, none⟩) xs.length c, .string sep] w fun e w' => e = .returned (.string ⟨(Lib.join (xs.map (·.data.toList)) sep.data.toList).toArray⟩) ∧ Below w.heap.size w w' := Any.strings_Join lays156 Builder_Extra_156 bk o c xs sep w hcells hbk hN hcap hlen
end Go.Proofs.YtldgbnlcnlfmeaaGreat

/- Names, patterns as text. -/
namespace Go.Proofs.YtldgbnlcnlfmeaaGreat
open Go.RowKit
set_option linter.unusedVariables false
set_option linter.unusedSimpArgs false

/-- The first k parts, each behind a slash. -/
def fmtK (p : List (List UInt8)) (k : Nat) : List UInt8 := ((p.take k).map (fun s => 47 :: s)).flatten
def fmtM (p : List (List UInt8)) (k : Nat) : List UInt8 := fmtK p k ++ [47]
def fmtP (p : List (List UInt8)) : List UInt8 := if p = [] then [47] else fmtK p p.length
theorem fmtK_succ {p : List (List UInt8)} {k : Nat} (h : k < p.length) : fmtM p k ++ p[k] = fmtK p (k + 1) := by
  unfold fmtM fmtK
  rw [List.take_succ_eq_append_getElem h, List.map_append, List.flatten_append]; simp
theorem fmtK_len (p : List (List UInt8)) (k : Nat) : (fmtK p k).length ≤ Ty.bulk (.sl .str) p := by
  have h1 : ∀ l : List (List UInt8), ((l.map (fun s => (47 : UInt8) :: s)).flatten).length = l.length + (l.map List.length).sum := by
    intro l
    induction l with
    | nil => rfl
    | cons a l ih => rw [List.map_cons, List.flatten_cons, List.length_append, ih, List.map_cons, List.sum_cons, List.length_cons, List.length_cons]; omega
  have h2 : (p.take k).length ≤ p.length := by rw [List.length_take]; omega
  have h3 : ((p.take k).map List.length).sum ≤ (p.map List.length).sum := by
    have := congrArg (fun l => (List.map List.length l).sum) (List.take_append_drop k p)
    simp only [List.map_append, List.sum_append] at this; omega
  have h4 : Ty.bulk (.sl .str) p = p.length + (p.map List.length).sum := rfl
  unfold fmtK
  rw [h1, h4]; omega
theorem fmtP_len (p : List (List UInt8)) : (fmtP p).length ≤ Ty.bulk (.sl .str) p + 1 := by
  unfold fmtP
  split
  · simp
  · have := fmtK_len p p.length; omega
theorem fmtP_join {p : List (List UInt8)} (h : p ≠ []) : [47] ++ Lib.join p [47] = fmtP p := by
  unfold fmtP
  rw [if_neg h]
  unfold fmtK
  rw [List.take_length]
  cases p with
  | nil => exact absurd rfl h
  | cons x r =>
    rw [Lib.join_cons]
    unfold Lib.joinTail
    rw [List.map_cons, List.flatten_cons]; rfl
theorem join_len (p : List (List UInt8)) (c : UInt8) : (Lib.join p [c]).length ≤ Ty.bulk (.sl .str) p := by
  cases p with
  | nil => show 0 ≤ _; exact Nat.zero_le _
  | cons x r =>
    rw [Lib.join_cons]
    unfold Lib.joinTail
    have h4 : Ty.bulk (.sl .str) (x :: r) = (r.length + 1) + (x.length + (r.map List.length).sum) := rfl
    have h1 : ∀ l : List (List UInt8), ((l.map (fun s => [c] ++ s)).flatten).length = l.length + (l.map List.length).sum := by
      intro l
      induction l with
      | nil => rfl
      | cons a l ih => rw [List.map_cons, List.flatten_cons, List.length_append, ih, List.map_cons, List.sum_cons, List.length_cons, List.length_append, List.length_singleton]; omega
    rw [List.length_append, h1, h4]; omega
/-- Two strings, one behind the other. -/
theorem cat_eq {P : Program} (x y z : List UInt8) (h : x ++ y = z) (hl : z.length ≤ 9223372036854775807) : ∀ W : World, (Op.stringOp .add (⟨x.toArray⟩ : ByteArray) ⟨y.toArray⟩).run P W = .ok (vS z) W := by
  intro W
  subst h
  rw [run_string_add_sum W _ _ (by simp [ByteArray.size]; simpa using hl), ByteArray.mk_append_mk]
set_option maxHeartbeats 1000000 in
theorem C_spec_FormatName (w : World) (cs : List Value) (p : List (List UInt8)) (h : (Ty.sl .str).rd w cs p) (s0 : Ty.bulk (.sl .str) p ≤ 1000000000) :
    Calls Tryz.prog 107 #[.agg cs.toArray] w (RetStr w (fmtP p)) := by
  obtain ⟨A, c, rfl⟩ := Ty.rd_slv h
  obtain ⟨_, _, _, _, _, n0⟩ := Ty.rd_sl h
  go_enter Tryz.func107, Tryz.ntmps107
  go_wp2
  go_loopw [3, 4] (fun s i wr => ∃ k : Nat, k ≤ p.length ∧ i = .int .i64 k ∧ s = vS (fmtK p k) ∧ Below (w.alloc (.cells #[.slice A p.length c] 32)).heap.size (w.alloc (.cells #[.slice A p.length c] 32)) wr) (fun _ i _ => p.length - (intOf i).toNat)
  case atStart => exact ⟨0, by omega, rfl, rfl, Below.refl _ _⟩
  case round =>
    obtain ⟨k, hk, rfl, rfl, hb⟩ := hrel
    have hw : Below w.heap.size w wr := bel_trans (by repeat' (first | (with_reducible exact Below.refl _ _) | (with_reducible assumption) | (with_reducible refine bel_set ?_ (by (try dsimp only); omega) _) | (with_reducible refine bel_alloc ?_ _) | (with_reducible refine bel_drewN ?_ _) | (with_reducible refine bel_drew ?_))) hb
    obtain ⟨hc, hf⟩ := bcell hb
    by_cases hlt : k < p.length
    · obtain ⟨b, o, rfl, e0, n1⟩ := Ty.rd_str_at (Ty.rd_below hw h) hlt
      have hl1 := fmtK_len p k
      have hl2 := fmtK_len p (k + 1)
      have hc1 := cat_eq (P := Tryz.prog) (fmtK p k) [47] (fmtM p k) rfl (by unfold fmtM; rw [List.length_append, List.length_singleton]; omega)
      have hc2 := cat_eq (P := Tryz.prog) (fmtM p k) p[k] (fmtK p (k + 1)) (fmtK_succ hlt) (by omega)
      go_wp2
      go_roundw
      case rel => exact ⟨k + 1, by omega, by go_num, rfl, hb⟩
      case measure => simp [intOf]; omega
    · have hkp : k = p.length := by omega
      by_cases h0 : p.length = 0
      · have hp : p = [] := List.eq_nil_of_length_eq_zero h0
        have HP : Hid (fmtP p = [47]) := by unfold Hid fmtP; rw [if_pos hp]
        have q0 : ((p.length : Int) == 0) = true := by simp [h0]
        clear hp h0 hkp
        go_wp2
        go_ret
        exact ⟨by rw [HP.out]; rfl, hw⟩
      · have HP : Hid (fmtP p = fmtK p k) := by
          unfold Hid fmtP
          rw [if_neg (fun hp => h0 (by rw [hp]; rfl)), hkp]
        have q0 : ((p.length : Int) == 0) = false := by rw [beq_eq_false_iff_ne]; omega
        clear h0 hkp
        go_wp2
        go_ret
        exact ⟨by rw [HP.out]; rfl, hw⟩
theorem C_Join (w : World) (v : Value) (p : List (List UInt8)) (c : UInt8) (h : (Ty.sl .str).rd w [v] p) (s0 : Ty.bulk (.sl .str) p ≤ 1000000000) :
    Calls Tryz.prog 147 #[v, .string ⟨#[c]⟩] w (RetStr w (Lib.join p [c])) := by
  obtain ⟨A, cc, rfl, hc, hm, hn⟩ := Ty.rd_sl h
  cases p with
  | nil =>
    refine (strings_Join_none A cc ⟨#[c]⟩ w).mono ?_
    rintro e w' ⟨rfl, rfl⟩
    exact ⟨rfl, Below.refl _ _⟩
  | cons x r =>
    obtain ⟨b, o, rfl, e0, _⟩ := Ty.rd_str_at (k := 0) h (by simp)
    have hlb : b < w.heap.size := World.block_lt_of_cell? w _ e0
    have hxl := Ty.bulk_len s0
    have hmm : ((x :: r).map (fun s => (⟨s.toArray⟩ : ByteArray))).map (·.data.toList) = x :: r := by
      rw [List.map_map]
      exact (List.map_congr_left (g := id) (fun a _ => by simp)).trans (List.map_id _)
    have hj := strings_Join b o cc ((x :: r).map (fun s => (⟨s.toArray⟩ : ByteArray))) ⟨#[c]⟩ w (fun j y hy => by
      rw [List.getElem?_map] at hy
      obtain ⟨s, hs, rfl⟩ := Option.map_eq_some_iff.1 hy
      obtain ⟨hj, rfl⟩ := List.getElem?_eq_some_iff.1 hs
      obtain ⟨b', o', he, e1, _⟩ := Ty.rd_str_at (k := j) h hj
      injection he with he
      injection he with he1 he2
      subst he1; subst he2
      exact e1) hlb (by rw [List.length_map]; omega) (by rw [List.length_map]; omega) (by rw [hmm]; have := join_len (x :: r) c; exact Nat.le_trans this (by omega))
    rw [List.length_map] at hj
    refine hj.mono ?_
    rintro e w' ⟨rfl, hb⟩
    exact ⟨by rw [hmm], hb⟩
set_option maxHeartbeats 1000000 in
theorem C_impl_slashed (w : World) (v : Value) (p : List (List UInt8)) (h : (Ty.sl .str).rd w [v] p) (s0 : Ty.bulk (.sl .str) p ≤ 1000000000) :
    Calls Tryz.prog 146 #[v] w (RetStr w (fmtP p)) := by
  obtain ⟨A, c, rfl, hc, hm, hn⟩ := Ty.rd_sl h
  by_cases h0 : p.length = 0
  · have hp : p = [] := List.eq_nil_of_length_eq_zero h0
    have HP : Hid (fmtP p = [47]) := by unfold Hid fmtP; rw [if_pos hp]
    have q0 : ((p.length : Int) == 0) = true := by simp [h0]
    clear hp h0
    go_enter Tryz.func146, Tryz.ntmps146
    go_wp2
    go_ret
    exact ⟨by rw [HP.out]; rfl, Below.refl _ _⟩
  · have hp : p ≠ [] := fun hp => h0 (by rw [hp]; rfl)
    have q0 : ((p.length : Int) == 0) = false := by rw [beq_eq_false_iff_ne]; omega
    have hl := fmtP_len p
    have hc1 := cat_eq (P := Tryz.prog) [47] (Lib.join p [47]) (fmtP p) (fmtP_join hp) (by omega)
    clear h0 hp
    go_enter Tryz.func146, Tryz.ntmps146
    go_wp2_with fail
    refine (C_Join _ _ p 47 h s0).mono ?_
    rintro e w1 ⟨rfl, hb1⟩
    go_wp2
    go_ret
    exact ⟨rfl, hb1⟩
set_option maxHeartbeats 1000000 in
theorem C_impl_FormatName (w : World) (cs : List Value) (p : List (List UInt8)) (h : (Ty.sl .str).rd w cs p) (s0 : Ty.bulk (.sl .str) p ≤ 1000000000) :
    Calls Tryz.prog 105 #[.agg cs.toArray] w (RetStr w (fmtP p)) := by
  obtain ⟨A, c, rfl⟩ := Ty.rd_slv h
  go_enter Tryz.func105, Tryz.ntmps105
  go_wp2_with fail
  refine (C_impl_slashed _ _ p (Ty.rd_below (by repeat' (first | (with_reducible exact Below.refl _ _) | (with_reducible assumption) | (with_reducible refine bel_set ?_ (by (try dsimp only); omega) _) | (with_reducible refine bel_alloc ?_ _) | (with_reducible refine bel_drewN ?_ _) | (with_reducible refine bel_drew ?_))) h) s0).mono ?_
  rintro e w1 ⟨rfl, hb1⟩
  go_wp2
  go_ret
  exact ⟨rfl, (by (repeat' (first | (with_reducible exact Below.refl _ _) | (with_reducible assumption) | (with_reducible refine bel_set ?_ (by (try dsimp only); omega) _) | (with_reducible refine bel_alloc ?_ _) | (with_reducible refine bel_drewN ?_ _) | (with_reducible refine bel_drew ?_) | (with_reducible refine bel_trans ?_ (by assumption)))); done)⟩
end Go.Proofs.YtldgbnlcnlfmeaaGreat

/- Keys as text. Printed by gen39.py. -/
namespace Go.Proofs.YtldgbnlcnlfmeaaGreat
open Go.RowKit
set_option linter.unusedVariables false
set_option linter.unusedSimpArgs false

def keyWords (l : List (Ty.D tKey)) : List (List UInt8) := l.map (fun e => fmtP e.1)
def f_FormatKeys (l : List (Ty.D tKey)) : List UInt8 := if l.length = 0 then [45] else Lib.join (keyWords l) [32]
theorem keyWords_succ (l : List (Ty.D tKey)) {k : Nat} (h : k < l.length) : keyWords (l.take (k + 1)) = keyWords (l.take k) ++ [fmtP l[k].1] := by
  unfold keyWords
  rw [List.take_succ_eq_append_getElem h, List.map_append]; rfl
theorem keyWords_len (l : List (Ty.D tKey)) {k : Nat} (h : k ≤ l.length) : (keyWords (l.take k)).length = k := by unfold keyWords; rw [List.length_map, List.length_take]; omega
theorem key_bulk_name {x : Ty.D tKey} {n : Nat} (s : Ty.bulk tKey x ≤ n) : Ty.bulk (.sl .str) x.1 ≤ n := by
  have h1 : Ty.bulk (.sl .str) x.1 + 0 ≤ n := s
  omega
theorem keyWords_bulk : ∀ (l : List (Ty.D tKey)), Ty.bulk (.sl .str) (keyWords l) ≤ 2 * Ty.bulk (.sl tKey) l
  | [] => Nat.zero_le _
  | a :: l => by
    have h1 : Ty.bulk (.sl .str) (keyWords (a :: l)) = Ty.bulk (.sl .str) [fmtP a.1] + Ty.bulk (.sl .str) (keyWords l) := bulk_app (e := .str) [fmtP a.1] _
    have h2 : Ty.bulk (.sl tKey) (a :: l) = Ty.bulk (.sl tKey) [a] + Ty.bulk (.sl tKey) l := bulk_app (e := tKey) [a] l
    have h3 := bulk_one (e := .str) (fmtP a.1)
    have h4 := bulk_one (e := tKey) a
    have h5 : Ty.bulk tKey a = Ty.bulk (.sl .str) a.1 + 0 := rfl
    have h6 := fmtP_len a.1
    have h7 : Ty.bulk .str (fmtP a.1) = (fmtP a.1).length := rfl
    have := keyWords_bulk l
    omega
theorem keyWords_bulk_take (l : List (Ty.D tKey)) (k : Nat) : Ty.bulk (.sl .str) (keyWords (l.take k)) ≤ 2 * Ty.bulk (.sl tKey) l := by
  have h1 := keyWords_bulk (l.take k)
  have h2 := bulk_take (e := tKey) l k
  omega
theorem join_snoc (l : List (List UInt8)) (a : List UInt8) (s : UInt8) (h : l ≠ []) : Lib.join (l ++ [a]) [s] = Lib.join l [s] ++ [s] ++ a := by
  cases l with
  | nil => exact absurd rfl h
  | cons x r =>
    rw [List.cons_append, Lib.join_cons, Lib.join_cons]
    unfold Lib.joinTail
    rw [List.map_append, List.flatten_append]
    simp
theorem join_one (a : List UInt8) (s : UInt8) : Lib.join [a] [s] = a := by
  rw [Lib.join_cons]; unfold Lib.joinTail; simp
def f_orDash (p : List (List UInt8)) : List UInt8 := if p.length = 0 then [45] else Lib.join p [32]
set_option maxHeartbeats 1000000 in
theorem C_impl_orDash (w : World) (v : Value) (p : List (List UInt8)) (h : (Ty.sl .str).rd w [v] p) (s0 : Ty.bulk (.sl .str) p ≤ 1000000000) :
    Calls Tryz.prog 106 #[v] w (RetStr w (f_orDash p)) := by
  obtain ⟨A, c, rfl, hc, hm, hn⟩ := Ty.rd_sl h
  by_cases h0 : p.length = 0
  · have HP : Hid (f_orDash p = [45]) := if_pos h0
    have q0 : ((p.length : Int) == 0) = true := by simp [h0]
    clear h0
    go_enter Tryz.func106, Tryz.ntmps106
    go_wp2
    go_ret
    exact ⟨by rw [HP.out]; rfl, Below.refl _ _⟩
  · have HP : Hid (f_orDash p = Lib.join p [32]) := if_neg h0
    have q0 : ((p.length : Int) == 0) = false := by rw [beq_eq_false_iff_ne]; omega
    clear h0
    rw [HP.out]
    go_enter Tryz.func106, Tryz.ntmps106
    go_wp2_with fail
    refine (C_Join _ _ p 32 h s0).mono ?_
    rintro e w1 ⟨rfl, hb1⟩
    go_wp2
    go_ret
    exact ⟨rfl, hb1⟩
set_option maxRecDepth 100000 in
set_option maxHeartbeats 2000000 in
theorem C_impl_FormatKeys (w : World) (v : Value) (x : List (Ty.D tKey)) (h : (Ty.sl tKey).rd w [v] x) (s0 : Ty.bulk (.sl tKey) x ≤ 1048576) :
    Calls Tryz.prog 51 #[v] w (RetStr w (f_FormatKeys x)) := by
  obtain ⟨A, c, rfl, hc, hm, hn⟩ := Ty.rd_sl h
  have hxl := Ty.bulk_len s0
  go_enter Tryz.func51, Tryz.ntmps51
  go_wp2
  go_loopw [3, 9] (fun l i wr => ∃ k : Nat, k ≤ x.length ∧ i = .int .i64 k ∧ Row flatS wr w.heap.size 9 l (keyWords (x.take k)) ∧ Below w.heap.size w wr) (fun _ i _ => x.length - (intOf i).toNat)
  case atStart => exact ⟨0, by omega, rfl, Row.lit0 flatS w 9 (Nat.le_refl _), (by repeat' (first | (with_reducible exact Below.refl _ _) | (with_reducible assumption) | (with_reducible refine bel_set ?_ (by (try dsimp only); omega) _) | (with_reducible refine bel_alloc ?_ _) | (with_reducible refine bel_drewN ?_ _) | (with_reducible refine bel_drew ?_)))⟩
  case round =>
    obtain ⟨k, hk, rfl, hr, hb⟩ := hrel
    have HR := Lib.hid hr
    clear hr
    by_cases hlt : k < x.length
    · have HL := Lib.hid (keyWords_len x hk)
      have HP := Lib.hid (keyWords_succ x hlt)
      obtain ⟨b, o, dse, rfl, hle, hcelle, hrde⟩ := Ty.rd_at (Ty.rd_below hb h) hlt
      have hrde' := hrde
      obtain ⟨Ae0, ce0, rfl, eg0, eg1⟩ := rd_Key hrde
      have e0 : wr.cell? ⟨b, o + k * 2, none⟩ = some (.slice Ae0 (List.length x[k].1) ce0) := by simpa [Ty.sz] using hcelle 0 (by decide)
      have e1 : wr.cell? ⟨b, o + k * 2 + 1, none⟩ = some (.int .i64 x[k].2) := by simpa [Ty.sz] using hcelle 1 (by decide)
      clear hcelle hle
      have hnb := key_bulk_name (Ty.bulk_at s0 hlt)
      have hfl := fmtP_len x[k].1
      go_wp2_with fail
      refine (C_impl_FormatName _ _ x[k].1 (Ty.rd_below (by repeat' (first | (with_reducible exact Below.refl _ _) | (with_reducible assumption) | (with_reducible refine bel_set ?_ (by (try dsimp only); omega) _) | (with_reducible refine bel_alloc ?_ _) | (with_reducible refine bel_drewN ?_ _) | (with_reducible refine bel_drew ?_))) eg0) (Nat.le_trans hnb (by decide))).mono ?_
      rintro e w1 ⟨rfl, hb1⟩
      have hv1 : Below wr.heap.size wr w1 := bel_trans (by repeat' (first | (with_reducible exact Below.refl _ _) | (with_reducible assumption) | (with_reducible refine bel_set ?_ (by (try dsimp only); omega) _) | (with_reducible refine bel_alloc ?_ _) | (with_reducible refine bel_drewN ?_ _) | (with_reducible refine bel_drew ?_))) hb1
      have HX := Lib.hid (Row.lit1 flatS w1 9 (fmtP x[k].1) (by show (fmtP x[k].1).length ≤ 9223372036854775807; omega) (Nat.le_refl _))
      have HR1 := Lib.hid (HR.out.below hv1)
      go_wp2_with (at_builtin; go_loud (refine wpList_append_row rfl _ _ 30 rfl flatS w.heap.size 9 info_str rfl Tryz.underlying30 _ _ (keyWords (x.take k)) [fmtP x[k].1] rfl rfl (HR1.out.below (by repeat' (first | (with_reducible exact Below.refl _ _) | (with_reducible assumption) | (with_reducible refine bel_set ?_ (by (try dsimp only); omega) _) | (with_reducible refine bel_alloc ?_ _) | (with_reducible refine bel_drewN ?_ _) | (with_reducible refine bel_drew ?_)))) (HX.out.rd (by (try simp only [World.size_alloc, World.size_setCell, size_drewN, World.size_drew]); omega)) ?_ ?_ ?_ ?_))
      case refine_1 => rw [HL.out, List.length_singleton]; omega
      case refine_2 => rw [HL.out, List.length_singleton]; unfold maxLen; omega
      case refine_3 => have := (bel_trans hb hv1).size; simp only [World.size_alloc]; omega
      intro v' w' hr' hg'
      have hb' : Below w.heap.size w w' := bel_grown (bel_alloc (bel_trans hb hv1) _) (by have := (bel_trans hb hv1).size; simp only [World.size_alloc]; omega) hg' (fun g hg => (HR1.out.block g hg).1)
      have HR' := Lib.hid hr'
      clear hr' hg'
      go_wp2
      go_roundw
      case rel => exact ⟨k + 1, by omega, by go_num, by rw [HP.out]; exact HR'.out, hb'⟩
      case measure => simp [intOf]; omega
    · have HE : Hid (keyWords (x.take k) = keyWords x) := by unfold Hid; rw [List.take_of_length_le (by omega)]
      have HF : Hid (f_FormatKeys x = f_orDash (keyWords x)) := by
        have hl : (keyWords x).length = x.length := by unfold keyWords; exact List.length_map _
        show f_FormatKeys x = _
        unfold f_orDash
        rw [hl]; rfl
      have hkb := keyWords_bulk x
      have hrd : (Ty.sl .str).rd wr [u3] (keyWords x) := by rw [← HE.out]; exact HR.out.rd hb.size
      go_wp2_with fail
      refine (C_impl_orDash _ _ (keyWords x) hrd (by omega)).mono ?_
      rintro e w1 ⟨rfl, hb1⟩
      go_wp2
      go_ret
      exact ⟨by rw [HF.out]; rfl, bel_trans hb hb1⟩
set_option maxRecDepth 100000 in
set_option maxHeartbeats 2000000 in
theorem C_spec_FormatKeys (w : World) (v : Value) (x : List (Ty.D tKey)) (h : (Ty.sl tKey).rd w [v] x) (s0 : Ty.bulk (.sl tKey) x ≤ 1048576) :
    Calls Tryz.prog 52 #[v] w (RetStr w (f_FormatKeys x)) := by
  obtain ⟨A, c, rfl, hc, hm, hn⟩ := Ty.rd_sl h
  have hxl := Ty.bulk_len s0
  go_enter Tryz.func52, Tryz.ntmps52
  go_wp2
  go_loopw [3, 4] (fun s i wr => ∃ k : Nat, k ≤ x.length ∧ i = .int .i64 k ∧ s = vS (Lib.join (keyWords (x.take k)) [32]) ∧ Below w.heap.size w wr) (fun _ i _ => x.length - (intOf i).toNat)
  case atStart => exact ⟨0, by omega, rfl, rfl, Below.refl _ _⟩
  case round =>
    obtain ⟨k, hk, rfl, rfl, hb⟩ := hrel
    by_cases hlt : k < x.length
    · have hl1 := join_len (keyWords (x.take k)) 32
      have hl2 := join_len (keyWords (x.take (k + 1))) 32
      have hl3 := keyWords_bulk_take x k
      have hl4 := keyWords_bulk_take x (k + 1)
      have HP := Lib.hid (keyWords_succ x hlt)
      have HL := Lib.hid (keyWords_len x hk)
      obtain ⟨b, o, dse, rfl, hle, hcelle, hrde⟩ := Ty.rd_at (Ty.rd_below hb h) hlt
      have hrde' := hrde
      obtain ⟨Ae0, ce0, rfl, eg0, eg1⟩ := rd_Key hrde
      have e0 : wr.cell? ⟨b, o + k * 2, none⟩ = some (.slice Ae0 (List.length x[k].1) ce0) := by simpa [Ty.sz] using hcelle 0 (by decide)
      have e1 : wr.cell? ⟨b, o + k * 2 + 1, none⟩ = some (.int .i64 x[k].2) := by simpa [Ty.sz] using hcelle 1 (by decide)
      clear hcelle hle
      have hnb := key_bulk_name (Ty.bulk_at s0 hlt)
      have i0 : (0 : Int) ≤ (k : Int) := by omega
      have i1 : (k : Int) < (x.length : Int) := by omega
      obtain ⟨J, hJ⟩ : ∃ J, J = Lib.join (keyWords (x.take k)) [32] := ⟨_, rfl⟩
      rw [← hJ] at hl1
      rw [← hJ]
      by_cases hk0 : k = 0
      · have q0 : decide ((0 : Int) < (k : Int)) = false := by simp [hk0]
        have HJ0 : Hid (J = []) := by rw [hJ, hk0]; rfl
        have HN : Hid (Lib.join (keyWords (x.take (k + 1))) [32] = fmtP x[k].1) := by
          show _ = _
          rw [HP.out, List.eq_nil_of_length_eq_zero (show (keyWords (x.take k)).length = 0 by rw [HL.out, hk0]), List.nil_append, join_one]
        have hc2 := cat_eq (P := Tryz.prog) J (fmtP x[k].1) (fmtP x[k].1) (by rw [HJ0.out]; rfl) (by rw [← HN.out]; omega)
        clear hJ q0
        subst hk0
        simp only [Nat.zero_mul, Nat.add_zero] at e0 e1
        go_wp2_with fail
        refine (C_spec_FormatName _ _ x[0].1 (Ty.rd_below (Below.refl _ _) eg0) (Nat.le_trans hnb (by decide))).mono ?_
        rintro e w1 ⟨rfl, hb1⟩
        go_wp2
        go_roundw
        case rel => exact ⟨1, by omega, by go_num, by rw [HN.out], bel_trans hb hb1⟩
        case measure => simp [intOf]; omega
      · have q0 : decide ((0 : Int) < (k : Int)) = true := by simp; omega
        have hkp : 0 < k := by omega
        have hkp2 : (0 : Int) < (k : Int) := by omega
        have HN : Hid (Lib.join (keyWords (x.take (k + 1))) [32] = (J ++ [32]) ++ fmtP x[k].1) := by
          show _ = _
          rw [HP.out, join_snoc _ _ _ (fun h => hk0 (by have := HL.out; rw [h] at this; simpa using this.symm)), hJ]
        obtain ⟨J1, hJ1⟩ : ∃ J1, J1 = J ++ [32] := ⟨_, rfl⟩
        obtain ⟨J2, hJ2⟩ : ∃ J2, J2 = Lib.join (keyWords (x.take (k + 1))) [32] := ⟨_, rfl⟩
        have hc1 := cat_eq (P := Tryz.prog) J [32] J1 hJ1.symm (by rw [hJ1, List.length_append, List.length_singleton]; omega)
        have hc2 := cat_eq (P := Tryz.prog) J1 (fmtP x[k].1) J2 (by rw [hJ2, HN.out, hJ1]) (by rw [hJ2]; omega)
        have HJ2 := Lib.hid hJ2
        clear hJ hk0 hJ1 hJ2
        go_wp2_with fail
        refine (C_spec_FormatName _ _ x[k].1 (Ty.rd_below (Below.refl _ _) eg0) (Nat.le_trans hnb (by decide))).mono ?_
        rintro e w1 ⟨rfl, hb1⟩
        go_wp2
        go_roundw
        case rel => exact ⟨k + 1, by omega, by go_num, by rw [HJ2.out], bel_trans hb hb1⟩
        case measure => simp [intOf]; omega
    · have HE : Hid (keyWords (x.take k) = keyWords x) := by unfold Hid; rw [List.take_of_length_le (by omega)]
      by_cases h0 : x.length = 0
      · have HF : Hid (f_FormatKeys x = [45]) := if_pos h0
        have q0 : ((x.length : Int) == 0) = true := by simp [h0]
        clear h0
        go_wp2
        go_ret
        exact ⟨by rw [HF.out]; rfl, hb⟩
      · have HF : Hid (f_FormatKeys x = Lib.join (keyWords x) [32]) := if_neg h0
        have q0 : ((x.length : Int) == 0) = false := by rw [beq_eq_false_iff_ne]; omega
        clear h0
        go_wp2
        go_ret
        exact ⟨by rw [HF.out, ← HE.out]; rfl, hb⟩
end Go.Proofs.YtldgbnlcnlfmeaaGreat

/- The laws' own small functions: a byte of the code, or what stands for it; the code's size. -/
namespace Go.Proofs.YtldgbnlcnlfmeaaGreat
open Go.RowKit
set_option linter.unusedVariables false
set_option linter.unusedSimpArgs false

set_option maxHeartbeats 1000000 in
theorem C_laws_bigG (w : World) (A : Option Addr) (n c : Nat) : Calls Tryz.prog 6 #[.slice A n c] w (RetBP w (decide ((n : Int) > 1048576))) := by
  go_enter Tryz.func6, Tryz.ntmps6
  go_wp2
  go_ret
  first | exact ⟨rfl, rfl⟩ | exact ⟨rfl, Below.refl _ _⟩ | trace_state
end Go.Proofs.YtldgbnlcnlfmeaaGreat
