/- Texts of this claim, merged by a program: Smg Eqs Sca Snm. -/
import Derived.Test.YtldgbnlcnlfmeaaQcP
import Derived.Test.YtldgbnlcnlfmeaaQc0
import Derived.Test.YtldgbnlcnlfmeaaQc1
import Derived.Test.YtldgbnlcnlfmeaaQc3
import Derived.BigQuiet
import Derived.Deep.RegionHeld3
import Derived.Deep.QuietTactic
namespace Go.Proofs.Ytldgbnlcnlfmeaa
open Go.RowKit
set_option linter.unusedVariables false
set_option linter.unusedSimpArgs false
set_option maxHeartbeats 1000000 in
theorem C_laws_sameG (w : World) (v1 v2 : Value) (x y : List (UInt8)) (h1 : (Ty.sl .byte).rd w [v1] x) (h2 : (Ty.sl .byte).rd w [v2] y) :
  Calls Try.prog 53 #[v1, v2] w (RetB w (decide (x = y))) := by
 obtain ⟨A1, c1, rfl, hc1, hm1, hn1⟩ := Ty.rd_sl h1
 obtain ⟨A2, c2, rfl, hc2, hm2, hn2⟩ := Ty.rd_sl h2
 by_cases hl : x.length = y.length
 ·have q1 : ((x.length : Int) != y.length) = false := by simp [hl]
  have HL := Lib.hid hl
  clear hl
  go_enter Try.func53, Try.ntmps53
  go_wp2
  go_loopw [5] (fun i wr => ∃ k : Nat, k ≤ x.length ∧ i = .int .i64 k ∧ x.take k = y.take k ∧ Below w.heap.size w wr) (fun i _ => x.length - (intOf i).toNat)
  case atStart => exact ⟨0, by omega, rfl, rfl, Below.refl _ _⟩
  case round =>
   obtain ⟨k, hk, rfl, htk, hb⟩ := hrel
   have HT := Lib.hid htk
   clear htk
   by_cases hlt : k < x.length
   ·have hlt2 : k < y.length := by have := HL.out; omega
    obtain ⟨b1, o1, rfl, e1⟩ := Ty.rd_byte_at (Ty.rd_below hb h1) hlt
    obtain ⟨b2, o2, rfl, e2⟩ := Ty.rd_byte_at (Ty.rd_below hb h2) hlt2
    have i3 : (0 : Int) ≤ (k : Int) := by omega
    have i4 : (k : Int) < (List.length x : Int) := by omega
    have i5 : (k : Int) < (List.length y : Int) := by omega
    by_cases he : x[k] = y[k]
    ·have q2 : ((x[k].toNat : Int) != y[k].toNat) = false := by simp [he]
     have HE := Lib.hid he
     clear he
     go_wp2
     go_quiet (fail)
     go_wp2
     go_roundw
     case rel => exact ⟨k + 1, by omega, by go_num, by rw [List.take_succ_eq_append_getElem hlt, List.take_succ_eq_append_getElem hlt2, HT.out, HE.out], bel_drewN hb _⟩
     case measure => simp [intOf]; omega
    ·have q2 : ((x[k].toNat : Int) != y[k].toNat) = true := by rw [bne_iff_ne]; intro h; exact he (UInt8.toNat_inj.1 b_34)
     have HE : Hid (¬ x = y) := fun h => he (by subst h; rfl)
     clear he
     go_wp2
     go_quiet (fail)
     go_wp2
     go_ret
     exact ⟨ret_bool (by simp [HE.out]), bel_drewN hb _⟩
   ·have HE : Hid (x = y) := by
     have h1 := HT.out
     rwa [List.take_of_length_le b_34, List.take_of_length_le (by have := HL.out; omega)] at h1
    go_wp2
    go_ret
    exact ⟨ret_bool (by simp [HE.out]), hb⟩
 ·have q1 : ((x.length : Int) != y.length) = true := by rw [bne_iff_ne]; omega
  have HE : Hid (¬ x = y) := fun h => hl (congrArg List.length h)
  go_enter Try.func53, Try.ntmps53
  go_wp2
  go_ret
  exact ⟨ret_bool (by simp [HE.out]), Below.refl _ _⟩
set_option maxHeartbeats 1000000 in
theorem C_laws_sameTextsG (w : World) (v1 v2 : Value) (x y : List (List UInt8)) (h1 : (Ty.sl .str).rd w [v1] x) (h2 : (Ty.sl .str).rd w [v2] y) :
  Calls Try.prog 79 #[v1, v2] w (RetB w (decide (x = y))) := by
 obtain ⟨A1, c1, rfl, hc1, hm1, hn1⟩ := Ty.rd_sl h1
 obtain ⟨A2, c2, rfl, hc2, hm2, hn2⟩ := Ty.rd_sl h2
 by_cases hl : x.length = y.length
 ·have q1 : ((x.length : Int) != y.length) = false := by simp [hl]
  have HL := Lib.hid hl
  clear hl
  go_enter Try.func79, Try.ntmps79
  go_wp2
  go_loopw [5] (fun i wr => ∃ k : Nat, k ≤ x.length ∧ i = .int .i64 k ∧ x.take k = y.take k ∧ Below w.heap.size w wr) (fun i _ => x.length - (intOf i).toNat)
  case atStart => exact ⟨0, by omega, rfl, rfl, Below.refl _ _⟩
  case round =>
   obtain ⟨k, hk, rfl, htk, hb⟩ := hrel
   have HT := Lib.hid htk
   clear htk
   by_cases hlt : k < x.length
   ·have hlt2 : k < y.length := by have := HL.out; omega
    obtain ⟨b1, o1, rfl, e1, _⟩ := Ty.rd_str_at (Ty.rd_below hb h1) hlt
    obtain ⟨b2, o2, rfl, e2, _⟩ := Ty.rd_str_at (Ty.rd_below hb h2) hlt2
    have i3 : (0 : Int) ≤ (k : Int) := by omega
    have i4 : (k : Int) < (List.length x : Int) := by omega
    have i5 : (k : Int) < (List.length y : Int) := by omega
    by_cases he : x[k] = y[k]
    ·have q2 : (!x[k] == y[k]) = false := by simp [he]
     have HE := Lib.hid he
     clear he
     go_wp2
     go_quiet (fail)
     go_wp2
     go_roundw
     case rel => exact ⟨k + 1, by omega, by go_num, by rw [List.take_succ_eq_append_getElem hlt, List.take_succ_eq_append_getElem hlt2, HT.out, HE.out], bel_drewN hb _⟩
     case measure => simp [intOf]; omega
    ·have q2 : (!x[k] == y[k]) = true := by simp [he]
     have HE : Hid (¬ x = y) := fun h => he (by subst h; rfl)
     clear he
     go_wp2
     go_quiet (fail)
     go_wp2
     go_ret
     exact ⟨ret_bool (by simp [HE.out]), bel_drewN hb _⟩
   ·have HE : Hid (x = y) := by
     have h1 := HT.out
     rwa [List.take_of_length_le b_34, List.take_of_length_le (by have := HL.out; omega)] at h1
    go_wp2
    go_ret
    exact ⟨ret_bool (by simp [HE.out]), hb⟩
 ·have q1 : ((x.length : Int) != y.length) = true := by rw [bne_iff_ne]; omega
  have HE : Hid (¬ x = y) := fun h => hl (congrArg List.length h)
  go_enter Try.func79, Try.ntmps79
  go_wp2
  go_ret
  exact ⟨ret_bool (by simp [HE.out]), Below.refl _ _⟩
set_option maxHeartbeats 1000000 in
theorem C_laws_sameNameG (w : World) (cs1 cs2 : List Value) (x y : List (List UInt8)) (h1 : (Ty.sl .str).rd w cs1 x) (h2 : (Ty.sl .str).rd w cs2 y) :
  Calls Try.prog 13 #[.agg cs1.toArray, .agg cs2.toArray] w (RetB w (decide (x = y))) := by
 obtain ⟨A1, c1, rfl⟩ := Ty.rd_slv h1
 obtain ⟨A2, c2, rfl⟩ := Ty.rd_slv h2
 go_enter Try.func13, Try.ntmps13
 go_wp2_with fail
 refine (C_laws_sameTextsG _ _ _ _ _ (Ty.rd_below b_6 h1) (Ty.rd_below b_6 h2)).mono ?_
 rintro e w1 ⟨rfl, hb1⟩
 have hw1 : Below w.heap.size w w1 := bel_trans b_6 hb1
 go_wp2
 go_ret
 exact ⟨rfl, b_6⟩
set_option maxHeartbeats 1000000 in
theorem C_laws_sameThingG (w : World) (cs1 : List Value) (x : tData.D) (cs2 : List Value) (y : tData.D) (h1 : tData.rd w cs1 x) (h2 : tData.rd w cs2 y) (s0 : Ty.bulk tData x ≤ 1048576) (s1 : Ty.bulk tData y ≤ 1048576) :
  Calls Try.prog 29 #[.agg cs1.toArray, .agg cs2.toArray] w (RetB w (f_EqualData x y)) := by
 obtain ⟨A0, c0, A1, c1, A2, c2, rfl, g0, g1, g2, _, _⟩ := rd_Data h1
 obtain ⟨B0, d0, B1, d1, B2, d2, rfl, k0, k1, k2, _, _⟩ := rd_Data h2
 go_enter Try.func29, Try.ntmps29
 go_wp2_with fail
 refine (C_laws_sameNameG _ _ _ _ _ (Ty.rd_below b_6 g0) (Ty.rd_below b_6 k0)).mono ?_
 rintro e w1 ⟨rfl, hb1⟩
 have hw1 : Below w.heap.size w w1 := bel_trans b_6 hb1
 obtain ⟨hc1, hf1⟩ := bcell hb1
 have z10 : w.heap.size < w1.heap.size := by have := hb1.size; simp only [World.size_alloc] at this; omega
 have z11 : w.heap.size + 1 < w1.heap.size := by have := hb1.size; simp only [World.size_alloc] at this; omega
 cases hq0 : decide (x.1 = y.1)
 ·go_wp2
  go_ret
  exact ⟨ret_bool (by unfold f_EqualData; rw [hq0]; rfl), hw1⟩
 go_wp2_with fail
 refine (C_laws_sameG _ _ _ x.2.1 y.2.1 (Ty.rd_below b_6 g1) (Ty.rd_below b_6 k1)).mono ?_
 rintro e w2 ⟨rfl, hb2⟩
 have hw2 : Below w.heap.size w w2 := bel_trans b_6 hb2
 obtain ⟨hc2, hf2⟩ := bcell hb2
 have z20 : w.heap.size < w2.heap.size := by have := hb2.size; omega
 have z21 : w.heap.size + 1 < w2.heap.size := by have := hb2.size; omega
 cases hq1 : decide (x.2.1 = y.2.1)
 ·go_wp2
  go_ret
  exact ⟨ret_bool (by unfold f_EqualData; rw [hq0, hq1]; rfl), hw2⟩
 go_wp2_with fail
 refine (C_laws_sameNameG _ _ _ _ _ (Ty.rd_below b_6 g2) (Ty.rd_below b_6 k2)).mono ?_
 rintro e w3 ⟨rfl, hb3⟩
 have hw3 : Below w.heap.size w w3 := bel_trans b_6 hb3
 obtain ⟨hc3, hf3⟩ := bcell hb3
 cases hq2 : decide (x.2.2.1 = y.2.2.1)
 ·go_wp2
  go_ret
  exact ⟨ret_bool (by unfold f_EqualData; rw [hq0, hq1, hq2]; rfl), hw3⟩
 cases hq3 : (x.2.2.2.1 == y.2.2.2.1)
 ·go_wp2
  go_ret
  exact ⟨ret_bool (by unfold f_EqualData; rw [hq0, hq1, hq2, show decide (x.2.2.2.1 = y.2.2.2.1) = false from by simpa using hq3]; rfl), hw3⟩
 go_wp2
 go_ret
 exact ⟨ret_bool (by unfold f_EqualData; rw [hq0, hq1, hq2, show decide (x.2.2.2.1 = y.2.2.2.1) = true from by simpa using hq3]; (rw [Bool.eq_iff_iff]; simp)), hw3⟩
instance decD : DecidableEq tData.D := inferInstanceAs (DecidableEq (List (List UInt8) × List UInt8 × List (List UInt8) × Int × Int))
instance decE : DecidableEq tCacheEntry.D := inferInstanceAs (DecidableEq (tData.D × Int))
instance decES : DecidableEq (List tCacheEntry.D) := inferInstanceAs (DecidableEq (List tCacheEntry.D))
instance decC : DecidableEq tContentStore.D := inferInstanceAs (DecidableEq (Int × List tCacheEntry.D))
def f_EqualContentStores (x y : Ty.D tContentStore) : Bool := decide (x = y)
theorem take_eq_succ {α : Type} {x y : List α} {k : Nat} (h1 : k < x.length) (h2 : k < y.length) (ht : x.take k = y.take k) (he : x[k] = y[k]) : x.take (k + 1) = y.take (k + 1) := by
 rw [List.take_succ_eq_append_getElem h1, List.take_succ_eq_append_getElem h2, ht, he]
theorem take_eq_all {α : Type} {x y : List α} {k : Nat} (h1 : x.length ≤ k) (h2 : y.length ≤ k) (ht : x.take k = y.take k) : x = y := by
 rwa [List.take_of_length_le h1, List.take_of_length_le h2] at ht
theorem data_eq (x y : tData.D) : f_EqualData x y = decide (x = y) := by
 unfold f_EqualData
 rw [Bool.eq_iff_iff]
 simp only [Bool.and_eq_true, decide_eq_true_eq]
 exact ⟨fun h => Prod.ext h.1 (Prod.ext h.2.1 (Prod.ext h.2.2.1 (Prod.ext h.2.2.2.1 h.2.2.2.2))), fun h => by subst h; exact ⟨rfl, rfl, rfl, rfl, rfl⟩⟩
theorem entry_bulk {x : tCacheEntry.D} (s : Ty.bulk tCacheEntry x ≤ 1048576) : Ty.bulk tData x.1 ≤ 1048576 := by
 have h1 : Ty.bulk tData x.1 + 0 ≤ 1048576 := s
 omega
theorem store_bulk {x : tContentStore.D} (s : Ty.bulk tContentStore x ≤ 1048576) : Ty.bulk (.sl tCacheEntry) x.2 ≤ 1048576 := by
 have h1 : 0 + Ty.bulk (.sl tCacheEntry) x.2 ≤ 1048576 := s
 omega
set_option maxHeartbeats 1000000 in
theorem C_impl_EqualContentStores1 (W : World) (ds1 : List Value) (x : Ty.D tCacheEntry) (ds2 : List Value) (y : Ty.D tCacheEntry) (h1 : tCacheEntry.rd W ds1 x) (h2 : tCacheEntry.rd W ds2 y) (s0 : Ty.bulk tCacheEntry x ≤ 1048576) (s1 : Ty.bulk tCacheEntry y ≤ 1048576) :
  Calls Try.prog 108 #[.agg ds1.toArray, .agg ds2.toArray] W (RetB W (decide (x = y))) := by
 obtain ⟨Ax00, cx00, Ax01, cx01, Ax02, cx02, rfl, xg0, xg1⟩ := rd_CacheEntry h1
 obtain ⟨Ay00, cy00, Ay01, cy01, Ay02, cy02, rfl, yg0, yg1⟩ := rd_CacheEntry h2
 have HF : Hid (decide (x = y) = (f_EqualData x.1 y.1 && decide (x.2 = y.2))) := by
  show _ = _
  rw [data_eq, Bool.eq_iff_iff]
  simp only [Bool.and_eq_true, decide_eq_true_eq]
  exact ⟨fun h => by subst h; exact ⟨rfl, rfl⟩, fun h => Prod.ext h.1 h.2⟩
 generalize decide (x = y) = F at HF ⊢
 have kb0_0 : ((W.alloc (.cells #[.slice Ax00 (List.length x.1.1) cx00, .slice Ax01 (List.length x.1.2.1) cx01, .slice Ax02 (List.length x.1.2.2.1) cx02, .int .i64 x.1.2.2.2.1, .int .i64 x.1.2.2.2.2, .int .i64 x.2] 127)).alloc (.cells #[.slice Ay00 (List.length y.1.1) cy00, .slice Ay01 (List.length y.1.2.1) cy01, .slice Ay02 (List.length y.1.2.2.1) cy02, .int .i64 y.1.2.2.2.1, .int .i64 y.1.2.2.2.2, .int .i64 y.2] 127)).cell? ⟨W.heap.size, 0, none⟩ = some (.slice Ax00 (List.length x.1.1) cx00) := ((World.cell?_alloc_lt _ _ _ b_26).trans (cell_new W _ _ 0 b_24))
 have kb0_1 : ((W.alloc (.cells #[.slice Ax00 (List.length x.1.1) cx00, .slice Ax01 (List.length x.1.2.1) cx01, .slice Ax02 (List.length x.1.2.2.1) cx02, .int .i64 x.1.2.2.2.1, .int .i64 x.1.2.2.2.2, .int .i64 x.2] 127)).alloc (.cells #[.slice Ay00 (List.length y.1.1) cy00, .slice Ay01 (List.length y.1.2.1) cy01, .slice Ay02 (List.length y.1.2.2.1) cy02, .int .i64 y.1.2.2.2.1, .int .i64 y.1.2.2.2.2, .int .i64 y.2] 127)).cell? ⟨W.heap.size, 1, none⟩ = some (.slice Ax01 (List.length x.1.2.1) cx01) := ((World.cell?_alloc_lt _ _ _ b_26).trans (cell_new W _ _ 1 b_24))
 have kb0_2 : ((W.alloc (.cells #[.slice Ax00 (List.length x.1.1) cx00, .slice Ax01 (List.length x.1.2.1) cx01, .slice Ax02 (List.length x.1.2.2.1) cx02, .int .i64 x.1.2.2.2.1, .int .i64 x.1.2.2.2.2, .int .i64 x.2] 127)).alloc (.cells #[.slice Ay00 (List.length y.1.1) cy00, .slice Ay01 (List.length y.1.2.1) cy01, .slice Ay02 (List.length y.1.2.2.1) cy02, .int .i64 y.1.2.2.2.1, .int .i64 y.1.2.2.2.2, .int .i64 y.2] 127)).cell? ⟨W.heap.size, 2, none⟩ = some (.slice Ax02 (List.length x.1.2.2.1) cx02) := ((World.cell?_alloc_lt _ _ _ b_26).trans (cell_new W _ _ 2 b_24))
 have kb0_3 : ((W.alloc (.cells #[.slice Ax00 (List.length x.1.1) cx00, .slice Ax01 (List.length x.1.2.1) cx01, .slice Ax02 (List.length x.1.2.2.1) cx02, .int .i64 x.1.2.2.2.1, .int .i64 x.1.2.2.2.2, .int .i64 x.2] 127)).alloc (.cells #[.slice Ay00 (List.length y.1.1) cy00, .slice Ay01 (List.length y.1.2.1) cy01, .slice Ay02 (List.length y.1.2.2.1) cy02, .int .i64 y.1.2.2.2.1, .int .i64 y.1.2.2.2.2, .int .i64 y.2] 127)).cell? ⟨W.heap.size, 3, none⟩ = some (.int .i64 x.1.2.2.2.1) := ((World.cell?_alloc_lt _ _ _ b_26).trans (cell_new W _ _ 3 b_24))
 have kb0_4 : ((W.alloc (.cells #[.slice Ax00 (List.length x.1.1) cx00, .slice Ax01 (List.length x.1.2.1) cx01, .slice Ax02 (List.length x.1.2.2.1) cx02, .int .i64 x.1.2.2.2.1, .int .i64 x.1.2.2.2.2, .int .i64 x.2] 127)).alloc (.cells #[.slice Ay00 (List.length y.1.1) cy00, .slice Ay01 (List.length y.1.2.1) cy01, .slice Ay02 (List.length y.1.2.2.1) cy02, .int .i64 y.1.2.2.2.1, .int .i64 y.1.2.2.2.2, .int .i64 y.2] 127)).cell? ⟨W.heap.size, 4, none⟩ = some (.int .i64 x.1.2.2.2.2) := ((World.cell?_alloc_lt _ _ _ b_26).trans (cell_new W _ _ 4 b_24))
 have kb0_5 : ((W.alloc (.cells #[.slice Ax00 (List.length x.1.1) cx00, .slice Ax01 (List.length x.1.2.1) cx01, .slice Ax02 (List.length x.1.2.2.1) cx02, .int .i64 x.1.2.2.2.1, .int .i64 x.1.2.2.2.2, .int .i64 x.2] 127)).alloc (.cells #[.slice Ay00 (List.length y.1.1) cy00, .slice Ay01 (List.length y.1.2.1) cy01, .slice Ay02 (List.length y.1.2.2.1) cy02, .int .i64 y.1.2.2.2.1, .int .i64 y.1.2.2.2.2, .int .i64 y.2] 127)).cell? ⟨W.heap.size, 5, none⟩ = some (.int .i64 x.2) := ((World.cell?_alloc_lt _ _ _ b_26).trans (cell_new W _ _ 5 b_24))
 have kb1_0 : ((W.alloc (.cells #[.slice Ax00 (List.length x.1.1) cx00, .slice Ax01 (List.length x.1.2.1) cx01, .slice Ax02 (List.length x.1.2.2.1) cx02, .int .i64 x.1.2.2.2.1, .int .i64 x.1.2.2.2.2, .int .i64 x.2] 127)).alloc (.cells #[.slice Ay00 (List.length y.1.1) cy00, .slice Ay01 (List.length y.1.2.1) cy01, .slice Ay02 (List.length y.1.2.2.1) cy02, .int .i64 y.1.2.2.2.1, .int .i64 y.1.2.2.2.2, .int .i64 y.2] 127)).cell? ⟨W.heap.size + 1, 0, none⟩ = some (.slice Ay00 (List.length y.1.1) cy00) := (cell_new (W.alloc (.cells #[.slice Ax00 (List.length x.1.1) cx00, .slice Ax01 (List.length x.1.2.1) cx01, .slice Ax02 (List.length x.1.2.2.1) cx02, .int .i64 x.1.2.2.2.1, .int .i64 x.1.2.2.2.2, .int .i64 x.2] 127)) _ _ 0 b_24)
 have kb1_1 : ((W.alloc (.cells #[.slice Ax00 (List.length x.1.1) cx00, .slice Ax01 (List.length x.1.2.1) cx01, .slice Ax02 (List.length x.1.2.2.1) cx02, .int .i64 x.1.2.2.2.1, .int .i64 x.1.2.2.2.2, .int .i64 x.2] 127)).alloc (.cells #[.slice Ay00 (List.length y.1.1) cy00, .slice Ay01 (List.length y.1.2.1) cy01, .slice Ay02 (List.length y.1.2.2.1) cy02, .int .i64 y.1.2.2.2.1, .int .i64 y.1.2.2.2.2, .int .i64 y.2] 127)).cell? ⟨W.heap.size + 1, 1, none⟩ = some (.slice Ay01 (List.length y.1.2.1) cy01) := (cell_new (W.alloc (.cells #[.slice Ax00 (List.length x.1.1) cx00, .slice Ax01 (List.length x.1.2.1) cx01, .slice Ax02 (List.length x.1.2.2.1) cx02, .int .i64 x.1.2.2.2.1, .int .i64 x.1.2.2.2.2, .int .i64 x.2] 127)) _ _ 1 b_24)
 have kb1_2 : ((W.alloc (.cells #[.slice Ax00 (List.length x.1.1) cx00, .slice Ax01 (List.length x.1.2.1) cx01, .slice Ax02 (List.length x.1.2.2.1) cx02, .int .i64 x.1.2.2.2.1, .int .i64 x.1.2.2.2.2, .int .i64 x.2] 127)).alloc (.cells #[.slice Ay00 (List.length y.1.1) cy00, .slice Ay01 (List.length y.1.2.1) cy01, .slice Ay02 (List.length y.1.2.2.1) cy02, .int .i64 y.1.2.2.2.1, .int .i64 y.1.2.2.2.2, .int .i64 y.2] 127)).cell? ⟨W.heap.size + 1, 2, none⟩ = some (.slice Ay02 (List.length y.1.2.2.1) cy02) := (cell_new (W.alloc (.cells #[.slice Ax00 (List.length x.1.1) cx00, .slice Ax01 (List.length x.1.2.1) cx01, .slice Ax02 (List.length x.1.2.2.1) cx02, .int .i64 x.1.2.2.2.1, .int .i64 x.1.2.2.2.2, .int .i64 x.2] 127)) _ _ 2 b_24)
 have kb1_3 : ((W.alloc (.cells #[.slice Ax00 (List.length x.1.1) cx00, .slice Ax01 (List.length x.1.2.1) cx01, .slice Ax02 (List.length x.1.2.2.1) cx02, .int .i64 x.1.2.2.2.1, .int .i64 x.1.2.2.2.2, .int .i64 x.2] 127)).alloc (.cells #[.slice Ay00 (List.length y.1.1) cy00, .slice Ay01 (List.length y.1.2.1) cy01, .slice Ay02 (List.length y.1.2.2.1) cy02, .int .i64 y.1.2.2.2.1, .int .i64 y.1.2.2.2.2, .int .i64 y.2] 127)).cell? ⟨W.heap.size + 1, 3, none⟩ = some (.int .i64 y.1.2.2.2.1) := (cell_new (W.alloc (.cells #[.slice Ax00 (List.length x.1.1) cx00, .slice Ax01 (List.length x.1.2.1) cx01, .slice Ax02 (List.length x.1.2.2.1) cx02, .int .i64 x.1.2.2.2.1, .int .i64 x.1.2.2.2.2, .int .i64 x.2] 127)) _ _ 3 b_24)
 have kb1_4 : ((W.alloc (.cells #[.slice Ax00 (List.length x.1.1) cx00, .slice Ax01 (List.length x.1.2.1) cx01, .slice Ax02 (List.length x.1.2.2.1) cx02, .int .i64 x.1.2.2.2.1, .int .i64 x.1.2.2.2.2, .int .i64 x.2] 127)).alloc (.cells #[.slice Ay00 (List.length y.1.1) cy00, .slice Ay01 (List.length y.1.2.1) cy01, .slice Ay02 (List.length y.1.2.2.1) cy02, .int .i64 y.1.2.2.2.1, .int .i64 y.1.2.2.2.2, .int .i64 y.2] 127)).cell? ⟨W.heap.size + 1, 4, none⟩ = some (.int .i64 y.1.2.2.2.2) := (cell_new (W.alloc (.cells #[.slice Ax00 (List.length x.1.1) cx00, .slice Ax01 (List.length x.1.2.1) cx01, .slice Ax02 (List.length x.1.2.2.1) cx02, .int .i64 x.1.2.2.2.1, .int .i64 x.1.2.2.2.2, .int .i64 x.2] 127)) _ _ 4 b_24)
 have kb1_5 : ((W.alloc (.cells #[.slice Ax00 (List.length x.1.1) cx00, .slice Ax01 (List.length x.1.2.1) cx01, .slice Ax02 (List.length x.1.2.2.1) cx02, .int .i64 x.1.2.2.2.1, .int .i64 x.1.2.2.2.2, .int .i64 x.2] 127)).alloc (.cells #[.slice Ay00 (List.length y.1.1) cy00, .slice Ay01 (List.length y.1.2.1) cy01, .slice Ay02 (List.length y.1.2.2.1) cy02, .int .i64 y.1.2.2.2.1, .int .i64 y.1.2.2.2.2, .int .i64 y.2] 127)).cell? ⟨W.heap.size + 1, 5, none⟩ = some (.int .i64 y.2) := (cell_new (W.alloc (.cells #[.slice Ax00 (List.length x.1.1) cx00, .slice Ax01 (List.length x.1.2.1) cx01, .slice Ax02 (List.length x.1.2.2.1) cx02, .int .i64 x.1.2.2.2.1, .int .i64 x.1.2.2.2.2, .int .i64 x.2] 127)) _ _ 5 b_24)
 have hvb : Below W.heap.size W ((W.alloc (.cells #[.slice Ax00 (List.length x.1.1) cx00, .slice Ax01 (List.length x.1.2.1) cx01, .slice Ax02 (List.length x.1.2.2.1) cx02, .int .i64 x.1.2.2.2.1, .int .i64 x.1.2.2.2.2, .int .i64 x.2] 127)).alloc (.cells #[.slice Ay00 (List.length y.1.1) cy00, .slice Ay01 (List.length y.1.2.1) cy01, .slice Ay02 (List.length y.1.2.2.1) cy02, .int .i64 y.1.2.2.2.1, .int .i64 y.1.2.2.2.2, .int .i64 y.2] 127)) := b_6
 have zb0 := Lib.hid (show ((W.alloc (.cells #[.slice Ax00 (List.length x.1.1) cx00, .slice Ax01 (List.length x.1.2.1) cx01, .slice Ax02 (List.length x.1.2.2.1) cx02, .int .i64 x.1.2.2.2.1, .int .i64 x.1.2.2.2.2, .int .i64 x.2] 127)).alloc (.cells #[.slice Ay00 (List.length y.1.1) cy00, .slice Ay01 (List.length y.1.2.1) cy01, .slice Ay02 (List.length y.1.2.2.1) cy02, .int .i64 y.1.2.2.2.1, .int .i64 y.1.2.2.2.2, .int .i64 y.2] 127)).heap.size = W.heap.size + 1 + 1 from by simp only [World.size_alloc])
 have zb : W.heap.size + 1 < ((W.alloc (.cells #[.slice Ax00 (List.length x.1.1) cx00, .slice Ax01 (List.length x.1.2.1) cx01, .slice Ax02 (List.length x.1.2.2.1) cx02, .int .i64 x.1.2.2.2.1, .int .i64 x.1.2.2.2.2, .int .i64 x.2] 127)).alloc (.cells #[.slice Ay00 (List.length y.1.1) cy00, .slice Ay01 (List.length y.1.2.1) cy01, .slice Ay02 (List.length y.1.2.2.1) cy02, .int .i64 y.1.2.2.2.1, .int .i64 y.1.2.2.2.2, .int .i64 y.2] 127)).heap.size := by simp only [World.size_alloc]; omega
 cases q5 : (x.2 == y.2)
 all_goals
  have HQ5 : Hid (decide (x.2 = y.2) = (x.2 == y.2)) := by show _ = _; rw [Bool.eq_iff_iff]; simp
  rw [q5] at HQ5
  go_enter Try.func108, Try.ntmps108
  go_wp2_with fail
  generalize ((W.alloc (.cells #[.slice Ax00 (List.length x.1.1) cx00, .slice Ax01 (List.length x.1.2.1) cx01, .slice Ax02 (List.length x.1.2.2.1) cx02, .int .i64 x.1.2.2.2.1, .int .i64 x.1.2.2.2.2, .int .i64 x.2] 127)).alloc (.cells #[.slice Ay00 (List.length y.1.1) cy00, .slice Ay01 (List.length y.1.2.1) cy01, .slice Ay02 (List.length y.1.2.2.1) cy02, .int .i64 y.1.2.2.2.1, .int .i64 y.1.2.2.2.2, .int .i64 y.2] 127)) = WX at kb0_0 kb0_1 kb0_2 kb0_3 kb0_4 kb0_5 kb1_0 kb1_1 kb1_2 kb1_3 kb1_4 kb1_5 hvb zb zb0 ⊢
  have HC : Hid (∀ V, Below WX.heap.size WX V → V.cell? ⟨W.heap.size, 0, none⟩ = some (.slice Ax00 (List.length x.1.1) cx00) ∧ V.cell? ⟨W.heap.size, 1, none⟩ = some (.slice Ax01 (List.length x.1.2.1) cx01) ∧ V.cell? ⟨W.heap.size, 2, none⟩ = some (.slice Ax02 (List.length x.1.2.2.1) cx02) ∧ V.cell? ⟨W.heap.size, 3, none⟩ = some (.int .i64 x.1.2.2.2.1) ∧ V.cell? ⟨W.heap.size, 4, none⟩ = some (.int .i64 x.1.2.2.2.2) ∧ V.cell? ⟨W.heap.size, 5, none⟩ = some (.int .i64 x.2) ∧ V.cell? ⟨W.heap.size + 1, 0, none⟩ = some (.slice Ay00 (List.length y.1.1) cy00) ∧ V.cell? ⟨W.heap.size + 1, 1, none⟩ = some (.slice Ay01 (List.length y.1.2.1) cy01) ∧ V.cell? ⟨W.heap.size + 1, 2, none⟩ = some (.slice Ay02 (List.length y.1.2.2.1) cy02) ∧ V.cell? ⟨W.heap.size + 1, 3, none⟩ = some (.int .i64 y.1.2.2.2.1) ∧ V.cell? ⟨W.heap.size + 1, 4, none⟩ = some (.int .i64 y.1.2.2.2.2) ∧ V.cell? ⟨W.heap.size + 1, 5, none⟩ = some (.int .i64 y.2)) := fun V hW => ⟨(hW.cell (p := ⟨W.heap.size, 0, none⟩) b_30).trans kb0_0, (hW.cell (p := ⟨W.heap.size, 1, none⟩) b_30).trans kb0_1, (hW.cell (p := ⟨W.heap.size, 2, none⟩) b_30).trans kb0_2, (hW.cell (p := ⟨W.heap.size, 3, none⟩) b_30).trans kb0_3, (hW.cell (p := ⟨W.heap.size, 4, none⟩) b_30).trans kb0_4, (hW.cell (p := ⟨W.heap.size, 5, none⟩) b_30).trans kb0_5, (hW.cell (p := ⟨W.heap.size + 1, 0, none⟩) b_30).trans kb1_0, (hW.cell (p := ⟨W.heap.size + 1, 1, none⟩) b_30).trans kb1_1, (hW.cell (p := ⟨W.heap.size + 1, 2, none⟩) b_30).trans kb1_2, (hW.cell (p := ⟨W.heap.size + 1, 3, none⟩) b_30).trans kb1_3, (hW.cell (p := ⟨W.heap.size + 1, 4, none⟩) b_30).trans kb1_4, (hW.cell (p := ⟨W.heap.size + 1, 5, none⟩) b_30).trans kb1_5⟩
  clear kb0_0 kb0_1 kb0_2 kb0_3 kb0_4 kb0_5 kb1_0 kb1_1 kb1_2 kb1_3 kb1_4 kb1_5
  refine (C_impl_EqualData _ _ _ _ _ (Ty.rd_below hvb xg0) (Ty.rd_below hvb yg0) (entry_bulk s0) (entry_bulk s1)).mono ?_
  rintro e w1 ⟨rfl, hb1⟩
  obtain ⟨j0, j1, j2, j3, j4, j5, j6, j7, j8, j9, j10, j11⟩ := HC.out _ (hb1)
  have zw1 : W.heap.size + 1 < w1.heap.size := by have := hb1.size; omega
  have zw0 : W.heap.size < w1.heap.size := by omega
  cases q0 : f_EqualData x.1 y.1
  all_goals
   rw [q0] at HF
   go_wp2
   go_ret
   exact ⟨ret_bool (by rw [HF.out, HQ5.out]; rfl), bel_trans hvb hb1⟩
set_option maxRecDepth 100000 in
set_option maxHeartbeats 1000000 in
theorem C_EqualFunc_CE (w : World) (v1 v2 : Value) (x y : List (Ty.D tCacheEntry)) (g : Nat) (lb : Array Value) (eg : ∀ args w, (callFunc g args).run Try.prog w = .ok (.enter g args) w)
  (h1 : (Ty.sl tCacheEntry).rd w [v1] x) (h2 : (Ty.sl tCacheEntry).rd w [v2] y) (s0 : Ty.bulk (.sl tCacheEntry) x ≤ 1048576) (s1 : Ty.bulk (.sl tCacheEntry) y ≤ 1048576) (hp : ∀ (W : World) (ds1 : List Value) (d1 : Ty.D tCacheEntry) (ds2 : List Value) (d2 : Ty.D tCacheEntry), Ty.rd W tCacheEntry ds1 d1 → Ty.rd W tCacheEntry ds2 d2 → Ty.bulk tCacheEntry d1 ≤ 1048576 → Ty.bulk tCacheEntry d2 ≤ 1048576 → Below w.heap.size w W → Calls Try.prog g (#[.agg ds1.toArray, .agg ds2.toArray] ++ lb) W (RetB W (decide (d1 = d2)))) :
  Calls Try.prog 107 #[v1, v2, .func (.func g) #[] lb] w (RetB w (decide (x = y))) := by
 obtain ⟨A1, c1, rfl, hc1, hm1, hn1⟩ := Ty.rd_sl h1
 obtain ⟨A2, c2, rfl, hc2, hm2, hn2⟩ := Ty.rd_sl h2
 have HP := Lib.hid hp
 clear hp
 by_cases hl : x.length = y.length
 ·have q1 : ((x.length : Int) != y.length) = false := by simp [hl]
  have HL := Lib.hid hl
  clear hl
  go_enter Try.func107, Try.ntmps107
  go_wp2
  go_loopw [17] (fun i wr => ∃ k : Nat, k ≤ x.length ∧ i = .int .i64 k ∧ x.take k = y.take k ∧ Below w.heap.size w wr) (fun i _ => x.length - (intOf i).toNat)
  case atStart => exact ⟨0, by omega, rfl, rfl, Below.refl _ _⟩
  case round =>
   obtain ⟨k, hk, rfl, htk, hb⟩ := hrel
   have HT := Lib.hid htk
   clear htk
   by_cases hlt : k < x.length
   ·have hlt2 : k < y.length := by have := HL.out; omega
    obtain ⟨b, o, dsa, rfl, hla, hcella, hrda⟩ := Ty.rd_at (Ty.rd_below hb h1) hlt
    have hrda' := hrda
    obtain ⟨Aa00, ca00, Aa01, ca01, Aa02, ca02, rfl, ag0, ag1⟩ := rd_CacheEntry hrda
    have e0 : wr.cell? ⟨b, o + k * 6, none⟩ = some (.slice Aa00 (List.length x[k].1.1) ca00) := by simpa [Ty.sz] using hcella 0 b_33
    have e1 : wr.cell? ⟨b, o + k * 6 + 1, none⟩ = some (.slice Aa01 (List.length x[k].1.2.1) ca01) := by simpa [Ty.sz] using hcella 1 b_33
    have e2 : wr.cell? ⟨b, o + k * 6 + 2, none⟩ = some (.slice Aa02 (List.length x[k].1.2.2.1) ca02) := by simpa [Ty.sz] using hcella 2 b_33
    have e3 : wr.cell? ⟨b, o + k * 6 + 3, none⟩ = some (.int .i64 x[k].1.2.2.2.1) := by simpa [Ty.sz] using hcella 3 b_33
    have e4 : wr.cell? ⟨b, o + k * 6 + 4, none⟩ = some (.int .i64 x[k].1.2.2.2.2) := by simpa [Ty.sz] using hcella 4 b_33
    have e5 : wr.cell? ⟨b, o + k * 6 + 5, none⟩ = some (.int .i64 x[k].2) := by simpa [Ty.sz] using hcella 5 b_33
    clear hcella hla
    obtain ⟨b2, o2, dsb, rfl, hlb, hcellb, hrdb⟩ := Ty.rd_at (Ty.rd_below hb h2) hlt2
    have hrdb' := hrdb
    obtain ⟨Ab00, cb00, Ab01, cb01, Ab02, cb02, rfl, bg0, bg1⟩ := rd_CacheEntry hrdb
    have f0 : wr.cell? ⟨b2, o2 + k * 6, none⟩ = some (.slice Ab00 (List.length y[k].1.1) cb00) := by simpa [Ty.sz] using hcellb 0 b_33
    have f1 : wr.cell? ⟨b2, o2 + k * 6 + 1, none⟩ = some (.slice Ab01 (List.length y[k].1.2.1) cb01) := by simpa [Ty.sz] using hcellb 1 b_33
    have f2 : wr.cell? ⟨b2, o2 + k * 6 + 2, none⟩ = some (.slice Ab02 (List.length y[k].1.2.2.1) cb02) := by simpa [Ty.sz] using hcellb 2 b_33
    have f3 : wr.cell? ⟨b2, o2 + k * 6 + 3, none⟩ = some (.int .i64 y[k].1.2.2.2.1) := by simpa [Ty.sz] using hcellb 3 b_33
    have f4 : wr.cell? ⟨b2, o2 + k * 6 + 4, none⟩ = some (.int .i64 y[k].1.2.2.2.2) := by simpa [Ty.sz] using hcellb 4 b_33
    have f5 : wr.cell? ⟨b2, o2 + k * 6 + 5, none⟩ = some (.int .i64 y[k].2) := by simpa [Ty.sz] using hcellb 5 b_33
    clear hcellb hlb
    have hlb2 : b2 < wr.heap.size := World.block_lt_of_cell? wr _ f0
    have hcall := HP.out ((wr.alloc (.cells #[.slice Aa00 (List.length x[k].1.1) ca00, .slice Aa01 (List.length x[k].1.2.1) ca01, .slice Aa02 (List.length x[k].1.2.2.1) ca02, .int .i64 x[k].1.2.2.2.1, .int .i64 x[k].1.2.2.2.2, .int .i64 x[k].2] 127)).alloc (.cells #[.slice Ab00 (List.length y[k].1.1) cb00, .slice Ab01 (List.length y[k].1.2.1) cb01, .slice Ab02 (List.length y[k].1.2.2.1) cb02, .int .i64 y[k].1.2.2.2.1, .int .i64 y[k].1.2.2.2.2, .int .i64 y[k].2] 127)) _ x[k] _ y[k] (Ty.rd_below b_6 hrda') (Ty.rd_below b_6 hrdb') (Ty.bulk_at s0 hlt) (Ty.bulk_at s1 hlt2) (bel_trans hb b_6)
    cases hq : decide (x[k] = y[k])
    ·have HE : Hid (¬ x = y) := fun h => by subst h; simp at hq
     rw [hq] at hcall
     clear hq
     go_wp2_with (go_at_fn g; refine hcall.mono ?_; rintro e w' ⟨rfl, hb'⟩)
     go_ret
     exact ⟨ret_bool (by simp [HE.out]), bel_trans hb (bel_trans b_6 hb')⟩
    ·have HE := Lib.hid (take_eq_succ hlt hlt2 HT.out (by simpa using hq))
     rw [hq] at hcall
     clear hq
     go_wp2_with (go_at_fn g; refine hcall.mono ?_; rintro e w' ⟨rfl, hb'⟩)
     go_roundw
     case rel => exact ⟨k + 1, by omega, by go_num, HE.out, bel_trans hb (bel_trans b_6 hb')⟩
     case measure => simp [intOf]; omega
   ·have HE : Hid (x = y) := take_eq_all (k := k) b_34 (by have := HL.out; omega) HT.out
    go_wp2
    go_ret
    exact ⟨ret_bool (by simp [HE.out]), hb⟩
 ·have q1 : ((x.length : Int) != y.length) = true := by rw [bne_iff_ne]; omega
  have HE : Hid (¬ x = y) := fun h => hl (congrArg List.length h)
  go_enter Try.func107, Try.ntmps107
  go_wp2
  go_ret
  exact ⟨ret_bool (by simp [HE.out]), Below.refl _ _⟩
set_option maxHeartbeats 1000000 in
theorem C_impl_EqualContentStores (w : World) (cs1 : List Value) (x : tContentStore.D) (cs2 : List Value) (y : tContentStore.D) (h1 : tContentStore.rd w cs1 x) (h2 : tContentStore.rd w cs2 y) (s0 : Ty.bulk tContentStore x ≤ 1048576) (s1 : Ty.bulk tContentStore y ≤ 1048576) :
  Calls Try.prog 34 #[.agg cs1.toArray, .agg cs2.toArray] w (RetB w (f_EqualContentStores x y)) := by
 obtain ⟨Ax1, cx1, rfl, xg0, xg1⟩ := rd_ContentStore h1
 obtain ⟨Ay1, cy1, rfl, yg0, yg1⟩ := rd_ContentStore h2
 have s0e := store_bulk s0
 have s1e := store_bulk s1
 have HF : Hid (f_EqualContentStores x y = (decide (x.1 = y.1) && decide (x.2 = y.2))) := by
  show decide (x = y) = _
  rw [Bool.eq_iff_iff]
  simp only [Bool.and_eq_true, decide_eq_true_eq]
  exact ⟨fun h => by subst h; exact ⟨rfl, rfl⟩, fun h => Prod.ext h.1 h.2⟩
 generalize f_EqualContentStores x y = F at HF ⊢
 have kb0_0 : ((w.alloc (.cells #[.int .i64 x.1, .slice Ax1 (List.length x.2) cx1] 55)).alloc (.cells #[.int .i64 y.1, .slice Ay1 (List.length y.2) cy1] 55)).cell? ⟨w.heap.size, 0, none⟩ = some (.int .i64 x.1) := ((World.cell?_alloc_lt _ _ _ b_26).trans (cell_new w _ _ 0 b_24))
 have kb0_1 : ((w.alloc (.cells #[.int .i64 x.1, .slice Ax1 (List.length x.2) cx1] 55)).alloc (.cells #[.int .i64 y.1, .slice Ay1 (List.length y.2) cy1] 55)).cell? ⟨w.heap.size, 1, none⟩ = some (.slice Ax1 (List.length x.2) cx1) := ((World.cell?_alloc_lt _ _ _ b_26).trans (cell_new w _ _ 1 b_24))
 have kb1_0 : ((w.alloc (.cells #[.int .i64 x.1, .slice Ax1 (List.length x.2) cx1] 55)).alloc (.cells #[.int .i64 y.1, .slice Ay1 (List.length y.2) cy1] 55)).cell? ⟨w.heap.size + 1, 0, none⟩ = some (.int .i64 y.1) := (cell_new (w.alloc (.cells #[.int .i64 x.1, .slice Ax1 (List.length x.2) cx1] 55)) _ _ 0 b_24)
 have kb1_1 : ((w.alloc (.cells #[.int .i64 x.1, .slice Ax1 (List.length x.2) cx1] 55)).alloc (.cells #[.int .i64 y.1, .slice Ay1 (List.length y.2) cy1] 55)).cell? ⟨w.heap.size + 1, 1, none⟩ = some (.slice Ay1 (List.length y.2) cy1) := (cell_new (w.alloc (.cells #[.int .i64 x.1, .slice Ax1 (List.length x.2) cx1] 55)) _ _ 1 b_24)
 have hvb : Below w.heap.size w ((w.alloc (.cells #[.int .i64 x.1, .slice Ax1 (List.length x.2) cx1] 55)).alloc (.cells #[.int .i64 y.1, .slice Ay1 (List.length y.2) cy1] 55)) := b_6
 have zb0 := Lib.hid (show ((w.alloc (.cells #[.int .i64 x.1, .slice Ax1 (List.length x.2) cx1] 55)).alloc (.cells #[.int .i64 y.1, .slice Ay1 (List.length y.2) cy1] 55)).heap.size = w.heap.size + 1 + 1 from by simp only [World.size_alloc])
 have zb : w.heap.size + 1 < ((w.alloc (.cells #[.int .i64 x.1, .slice Ax1 (List.length x.2) cx1] 55)).alloc (.cells #[.int .i64 y.1, .slice Ay1 (List.length y.2) cy1] 55)).heap.size := by simp only [World.size_alloc]; omega
 cases q5 : (x.1 == y.1)
 ·have HQ5 : Hid (decide (x.1 = y.1) = false) := by show _ = _; rw [← q5, Bool.eq_iff_iff]; simp
  go_enter Try.func34, Try.ntmps34
  go_wp2
  go_ret
  exact ⟨ret_bool (by rw [HF.out, HQ5.out]; rfl), hvb⟩
 ·have HQ5 : Hid (decide (x.1 = y.1) = true) := by show _ = _; rw [← q5, Bool.eq_iff_iff]; simp
  go_enter Try.func34, Try.ntmps34
  go_wp2_with fail
  refine (C_EqualFunc_CE _ _ _ x.2 y.2 108 #[] (enters_of Try.func108 b_31 rfl) (Ty.rd_below hvb xg1) (Ty.rd_below hvb yg1) s0e s1e (fun W ds1 d1 ds2 d2 r1 r2 t1 t2 _ => by rw [Array.append_empty]; exact C_impl_EqualContentStores1 W ds1 d1 ds2 d2 r1 r2 t1 t2)).mono ?_
  rintro e w1 ⟨rfl, hb1⟩
  go_wp2
  go_ret
  exact ⟨ret_bool (by rw [HF.out, HQ5.out]; rfl), bel_trans hvb hb1⟩
theorem eqData_dec (x y : Ty.D tData) : f_EqualData x y = decide (x = y) := by
 unfold f_EqualData
 by_cases h : x = y
 ·subst h; simp
 ·rw [decide_eq_false h]
  cases q : decide (x.1 = y.1) && (decide (x.2.1 = y.2.1) && (decide (x.2.2.1 = y.2.2.1) && (decide (x.2.2.2.1 = y.2.2.2.1) && decide (x.2.2.2.2 = y.2.2.2.2)))) with
  | false => rfl
  | true =>
   simp only [Bool.and_eq_true, decide_eq_true_eq] at q
   exact absurd (Prod.ext q.1 (Prod.ext q.2.1 (Prod.ext q.2.2.1 (Prod.ext q.2.2.2.1 q.2.2.2.2)))) h
theorem eqSt_ne {a : Int} {x y : List (Ty.D tCacheEntry)} (h : ¬ x = y) : false = f_EqualContentStores (a, x) (a, y) := by
 unfold f_EqualContentStores; symm; apply decide_eq_false; intro e; exact h (congrArg Prod.snd e)
set_option maxRecDepth 100000 in
set_option maxHeartbeats 4000000 in
theorem C_laws_sameCacheG (w : World) (cs1 : List Value) (X : Ty.D tContentStore) (cs2 : List Value) (Y : Ty.D tContentStore) (h1 : tContentStore.rd w cs1 X) (h2 : tContentStore.rd w cs2 Y) (s0 : Ty.bulk tContentStore X ≤ 1048576) (s1 : Ty.bulk tContentStore Y ≤ 1048576) :
  Calls Try.prog 27 #[.agg cs1.toArray, .agg cs2.toArray] w (RetB w (f_EqualContentStores X Y)) := by
 obtain ⟨a, x⟩ := X
 obtain ⟨b, y⟩ := Y
 obtain ⟨A1, c1, rfl, ai, x1⟩ := rd_ContentStore h1
 obtain ⟨A2, c2, rfl, bi, x2⟩ := rd_ContentStore h2
 have hbx : Ty.bulk (.sl tCacheEntry) x ≤ 1048576 := by have : Ty.bulk tContentStore (a, x) = 0 + Ty.bulk (.sl tCacheEntry) x := rfl; omega
 have hby : Ty.bulk (.sl tCacheEntry) y ≤ 1048576 := by have : Ty.bulk tContentStore (b, y) = 0 + Ty.bulk (.sl tCacheEntry) y := rfl; omega
 dsimp only at x1 x2 ⊢
 obtain ⟨_, _, _, hc1, hm1, hn1⟩ := Ty.rd_sl x1
 obtain ⟨_, _, _, hc2, hm2, hn2⟩ := Ty.rd_sl x2
 obtain ⟨WX, hWX⟩ : ∃ V, V = (w.alloc (.cells #[.int .i64 a, .slice A1 (List.length x) c1] 55)).alloc (.cells #[.int .i64 b, .slice A2 (List.length y) c2] 55) := ⟨_, rfl⟩
 have hK : Blk WX w.heap.size 55 #[.int .i64 a, .slice A1 (List.length x) c1] := by rw [hWX]; exact (Blk.new _ _ _).alloc _
 have hL : Blk WX (w.heap.size + 1) 55 #[.int .i64 b, .slice A2 (List.length y) c2] := by
  rw [hWX]
  have := Blk.new (w.alloc (.cells #[.int .i64 a, .slice A1 (List.length x) c1] 55)) 55 #[.int .i64 b, .slice A2 (List.length y) c2]
  simpa only [World.size_alloc] using this
 have hvb : Below w.heap.size w WX := by rw [hWX]; exact b_6
 have k0 := hK.cell 0
 have k1 := hK.cell 1
 have l0 := hL.cell 0
 have l1 := hL.cell 1
 simp only [List.getElem?_toArray, List.getElem?_cons_zero, List.getElem?_cons_succ] at k0 k1 l0 l1
 go_enter Try.func27, Try.ntmps27
 by_cases hab : a = b
 ·subst hab
  by_cases hl : x.length = y.length
  ·have q1 : ((x.length : Int) != y.length) = false := by simp [hl]
   have HL := Lib.hid hl
   clear hl
   go_wp2_with fail
   rw [← hWX]
   clear hWX q1
   go_loopw [5] (fun i wr => ∃ k : Nat, k ≤ x.length ∧ i = .int .i64 k ∧ x.take k = y.take k ∧ Below WX.heap.size WX wr) (fun i _ => x.length - (intOf i).toNat)
   case atStart => exact ⟨0, by omega, rfl, rfl, Below.refl _ _⟩
   case round =>
    obtain ⟨k, hk, rfl, htk, hb⟩ := hrel
    have HT := Lib.hid htk
    have hbw : Below w.heap.size w wr := bel_trans hvb hb
    have hKr := hK.below hb hK.lt
    have hLr := hL.below hb hL.lt
    clear htk k0 k1 l0 l1
    have k0 := hKr.cell 0
    have k1 := hKr.cell 1
    have l0 := hLr.cell 0
    have l1 := hLr.cell 1
    simp only [List.getElem?_toArray, List.getElem?_cons_zero, List.getElem?_cons_succ] at k0 k1 l0 l1
    by_cases hlt : k < x.length
    ·have hlt2 : k < y.length := by have := HL.out; omega
     obtain ⟨b1, o1, ds1, rfl, hl1, hcell1, hrd1⟩ := Ty.rd_at (Ty.rd_below hbw x1) hlt
     obtain ⟨P00, Pa, P01, Pb, P02, Pc, rfl, pg0, pg1⟩ := rd_CacheEntry hrd1
     have e0 : wr.cell? ⟨b1, o1 + k * 6, none⟩ = some (.slice P00 (List.length x[k].1.1) Pa) := by simpa [Ty.sz] using hcell1 0 b_33
     have e1 : wr.cell? ⟨b1, o1 + k * 6 + 1, none⟩ = some (.slice P01 (List.length x[k].1.2.1) Pb) := by simpa [Ty.sz] using hcell1 1 b_33
     have e2 : wr.cell? ⟨b1, o1 + k * 6 + 2, none⟩ = some (.slice P02 (List.length x[k].1.2.2.1) Pc) := by simpa [Ty.sz] using hcell1 2 b_33
     have e3 : wr.cell? ⟨b1, o1 + k * 6 + 3, none⟩ = some (.int .i64 x[k].1.2.2.2.1) := by simpa [Ty.sz] using hcell1 3 b_33
     have e4 : wr.cell? ⟨b1, o1 + k * 6 + 4, none⟩ = some (.int .i64 x[k].1.2.2.2.2) := by simpa [Ty.sz] using hcell1 4 b_33
     have e5 : wr.cell? ⟨b1, o1 + k * 6 + 5, none⟩ = some (.int .i64 x[k].2) := by simpa [Ty.sz] using hcell1 5 b_33
     clear hcell1 hl1
     obtain ⟨b2, o2, ds2, rfl, hl2, hcell2, hrd2⟩ := Ty.rd_at (Ty.rd_below hbw x2) hlt2
     obtain ⟨R00, Ra, R01, Rb, R02, Rc, rfl, rg0, rg1⟩ := rd_CacheEntry hrd2
     have d0 : wr.cell? ⟨b2, o2 + k * 6, none⟩ = some (.slice R00 (List.length y[k].1.1) Ra) := by simpa [Ty.sz] using hcell2 0 b_33
     have d1 : wr.cell? ⟨b2, o2 + k * 6 + 1, none⟩ = some (.slice R01 (List.length y[k].1.2.1) Rb) := by simpa [Ty.sz] using hcell2 1 b_33
     have d2 : wr.cell? ⟨b2, o2 + k * 6 + 2, none⟩ = some (.slice R02 (List.length y[k].1.2.2.1) Rc) := by simpa [Ty.sz] using hcell2 2 b_33
     have d3 : wr.cell? ⟨b2, o2 + k * 6 + 3, none⟩ = some (.int .i64 y[k].1.2.2.2.1) := by simpa [Ty.sz] using hcell2 3 b_33
     have d4 : wr.cell? ⟨b2, o2 + k * 6 + 4, none⟩ = some (.int .i64 y[k].1.2.2.2.2) := by simpa [Ty.sz] using hcell2 4 b_33
     have d5 : wr.cell? ⟨b2, o2 + k * 6 + 5, none⟩ = some (.int .i64 y[k].2) := by simpa [Ty.sz] using hcell2 5 b_33
     clear hcell2 hl2
     have i3 : (0 : Int) ≤ (k : Int) := by omega
     have i4 : (k : Int) < (List.length x : Int) := by omega
     have i5 : (k : Int) < (List.length y : Int) := by omega
     have z1 : b1 < wr.heap.size := World.block_lt_of_cell? _ _ e0
     have z2 : b2 < wr.heap.size := World.block_lt_of_cell? _ _ d0
     have sx : Ty.bulk tData x[k].1 ≤ 1048576 := by have h := Ty.bulk_at hbx hlt; have h3 : Ty.bulk tCacheEntry x[k] = Ty.bulk tData x[k].1 + 0 := rfl; omega
     have sy : Ty.bulk tData y[k].1 ≤ 1048576 := by have h := Ty.bulk_at hby hlt2; have h3 : Ty.bulk tCacheEntry y[k] = Ty.bulk tData y[k].1 + 0 := rfl; omega
     have HS : Hid (∀ W, Below wr.heap.size wr W → Below WX.heap.size WX W ∧ W.cell? ⟨w.heap.size, 0, none⟩ = some (.int .i64 a) ∧ W.cell? ⟨w.heap.size, 1, none⟩ = some (.slice (some ⟨b1, o1, none⟩) (List.length x) c1) ∧ W.cell? ⟨w.heap.size + 1, 0, none⟩ = some (.int .i64 a) ∧ W.cell? ⟨w.heap.size + 1, 1, none⟩ = some (.slice (some ⟨b2, o2, none⟩) (List.length y) c2) ∧ W.cell? ⟨b1, o1 + k * 6, none⟩ = some (.slice P00 (List.length x[k].1.1) Pa) ∧ W.cell? ⟨b1, o1 + k * 6 + 1, none⟩ = some (.slice P01 (List.length x[k].1.2.1) Pb) ∧ W.cell? ⟨b1, o1 + k * 6 + 2, none⟩ = some (.slice P02 (List.length x[k].1.2.2.1) Pc) ∧ W.cell? ⟨b1, o1 + k * 6 + 3, none⟩ = some (.int .i64 x[k].1.2.2.2.1) ∧ W.cell? ⟨b1, o1 + k * 6 + 4, none⟩ = some (.int .i64 x[k].1.2.2.2.2) ∧ W.cell? ⟨b1, o1 + k * 6 + 5, none⟩ = some (.int .i64 x[k].2) ∧ W.cell? ⟨b2, o2 + k * 6, none⟩ = some (.slice R00 (List.length y[k].1.1) Ra) ∧ W.cell? ⟨b2, o2 + k * 6 + 1, none⟩ = some (.slice R01 (List.length y[k].1.2.1) Rb) ∧ W.cell? ⟨b2, o2 + k * 6 + 2, none⟩ = some (.slice R02 (List.length y[k].1.2.2.1) Rc) ∧ W.cell? ⟨b2, o2 + k * 6 + 3, none⟩ = some (.int .i64 y[k].1.2.2.2.1) ∧ W.cell? ⟨b2, o2 + k * 6 + 4, none⟩ = some (.int .i64 y[k].1.2.2.2.2) ∧ W.cell? ⟨b2, o2 + k * 6 + 5, none⟩ = some (.int .i64 y[k].2)) := fun W hW => ⟨bel_trans hb hW, (hKr.below hW hKr.lt).cell 0, (hKr.below hW hKr.lt).cell 1, (hLr.below hW hLr.lt).cell 0, (hLr.below hW hLr.lt).cell 1, (hW.cell (p := ⟨b1, _, none⟩) z1).trans e0, (hW.cell (p := ⟨b1, _, none⟩) z1).trans e1, (hW.cell (p := ⟨b1, _, none⟩) z1).trans e2, (hW.cell (p := ⟨b1, _, none⟩) z1).trans e3, (hW.cell (p := ⟨b1, _, none⟩) z1).trans e4, (hW.cell (p := ⟨b1, _, none⟩) z1).trans e5, (hW.cell (p := ⟨b2, _, none⟩) z2).trans d0, (hW.cell (p := ⟨b2, _, none⟩) z2).trans d1, (hW.cell (p := ⟨b2, _, none⟩) z2).trans d2, (hW.cell (p := ⟨b2, _, none⟩) z2).trans d3, (hW.cell (p := ⟨b2, _, none⟩) z2).trans d4, (hW.cell (p := ⟨b2, _, none⟩) z2).trans d5⟩
     have HX := Lib.hid hrd1
     have HY := Lib.hid hrd2
     have QX : tData.rd wr [.slice P00 (List.length x[k].1.1) Pa, .slice P01 (List.length x[k].1.2.1) Pb, .slice P02 (List.length x[k].1.2.2.1) Pc, .int .i64 x[k].1.2.2.2.1, .int .i64 x[k].1.2.2.2.2] x[k].1 := pg0
     have QY : tData.rd wr [.slice R00 (List.length y[k].1.1) Ra, .slice R01 (List.length y[k].1.2.1) Rb, .slice R02 (List.length y[k].1.2.2.1) Rc, .int .i64 y[k].1.2.2.2.1, .int .i64 y[k].1.2.2.2.2] y[k].1 := rg0
     have HTS := Lib.hid (fun (h : x[k] = y[k]) => (show x.take (k + 1) = y.take (k + 1) by rw [List.take_succ_eq_append_getElem hlt, List.take_succ_eq_append_getElem hlt2, HT.out, h]))
     have HNE := Lib.hid (fun (h : ¬ x[k] = y[k]) (h' : x = y) => h (by subst h'; rfl))
     have HEX := Lib.hid (fun (h1 : x[k].1 = y[k].1) (h2 : x[k].2 = y[k].2) => (Prod.ext h1 h2 : x[k] = y[k]))
     have HEN := Lib.hid (fun (h : x[k] = y[k]) => (⟨by rw [h], by rw [h]⟩ : x[k].1 = y[k].1 ∧ x[k].2 = y[k].2))
     clear hrd1 hrd2 pg0 pg1 rg0 rg1 k0 k1 l0 l1
     generalize hu : x[k].2 = u at HS HEX HEN e5
     generalize hv : y[k].2 = v at HS HEX HEN d5
     generalize hp : x[k].1 = p at HS HEX HEN QX sx e0 e1 e2 e3 e4
     generalize hq : y[k].1 = q at HS HEX HEN QY sy d0 d1 d2 d3 d4
     clear hu hv hp hq HX HY
     obtain ⟨-, k0, k1, l0, l1, -⟩ := HS.out wr (Below.refl _ _)
     by_cases huv : u = v
     ·subst huv
      go_wp2_with fail
      refine wp_region_noPanic ?_
      refine wp_region_held_drew (S := (fun W => Below WX.heap.size WX W ∧ W.cell? ⟨w.heap.size, 0, none⟩ = some (.int .i64 a) ∧ W.cell? ⟨w.heap.size, 1, none⟩ = some (.slice (some ⟨b1, o1, none⟩) (List.length x) c1) ∧ W.cell? ⟨w.heap.size + 1, 0, none⟩ = some (.int .i64 a) ∧ W.cell? ⟨w.heap.size + 1, 1, none⟩ = some (.slice (some ⟨b2, o2, none⟩) (List.length y) c2) ∧ W.cell? ⟨b1, o1 + k * 6, none⟩ = some (.slice P00 (List.length p.1) Pa) ∧ W.cell? ⟨b1, o1 + k * 6 + 1, none⟩ = some (.slice P01 (List.length p.2.1) Pb) ∧ W.cell? ⟨b1, o1 + k * 6 + 2, none⟩ = some (.slice P02 (List.length p.2.2.1) Pc) ∧ W.cell? ⟨b1, o1 + k * 6 + 3, none⟩ = some (.int .i64 p.2.2.2.1) ∧ W.cell? ⟨b1, o1 + k * 6 + 4, none⟩ = some (.int .i64 p.2.2.2.2) ∧ W.cell? ⟨b1, o1 + k * 6 + 5, none⟩ = some (.int .i64 u) ∧ W.cell? ⟨b2, o2 + k * 6, none⟩ = some (.slice R00 (List.length q.1) Ra) ∧ W.cell? ⟨b2, o2 + k * 6 + 1, none⟩ = some (.slice R01 (List.length q.2.1) Rb) ∧ W.cell? ⟨b2, o2 + k * 6 + 2, none⟩ = some (.slice R02 (List.length q.2.2.1) Rc) ∧ W.cell? ⟨b2, o2 + k * 6 + 3, none⟩ = some (.int .i64 q.2.2.2.1) ∧ W.cell? ⟨b2, o2 + k * 6 + 4, none⟩ = some (.int .i64 q.2.2.2.2) ∧ W.cell? ⟨b2, o2 + k * 6 + 5, none⟩ = some (.int .i64 u))) b_31 ?_ (fun hHeld => ?_)
      ·exact HS.out _ b_6
      refine tkz4 0 1 2 3 ?_
      try simp only [layz]
      refine tkz4 4 5 6 7 ?_
      try simp only [layz]
      refine tkz4 8 9 10 11 ?_
      try simp only [layz]
      refine tkz4 12 13 14 15 ?_
      try simp only [layz]
      refine tkz4 16 17 18 19 ?_
      try simp only [layz]
      refine tkz4 20 21 22 23 ?_
      try simp only [layz]
      refine tkz2 24 25 ?_
      try simp only [layz]
      refine rz1 26 (fun K hK => ?_)
      go_simp
      go_at_call 29
      refine Calls.mono (C_laws_sameThingG _ _ p _ q (Ty.rd_below b_6 QX) (Ty.rd_below b_6 QY) sx sy) ?_
      rintro e w1 ⟨rfl, hb1⟩
      have hw1 : Below wr.heap.size wr w1 := bel_trans b_6 hb1
      have hw2 : Below WX.heap.size WX w1 := bel_trans hb hw1
      have hE := Lib.hid (eqData_dec p q)
      generalize f_EqualData p q = r at hE ⊢
      refine hK.out _ _ (HS.out _ hw1) (fun hHeld => ?_)
      clear hK K
      try simp only [layz]
      refine tkz2 27 28 ?_
      try simp only [layz]
      refine wpAnyH_done b_31 ?_ _
      refine NoPanic.normal ?_
      cases r with
      | true =>
       have HP := Lib.hid (of_decide_eq_true hE.out.symm)
       clear hE
       go_wp2
       go_roundw
       case rel => exact ⟨k + 1, by omega, by go_num, HTS.out (HEX.out HP.out (by first | rfl | trivial)), hw2⟩
       case measure => simp [intOf]; omega
      | false =>
       have HP := Lib.hid (of_decide_eq_false hE.out.symm)
       clear hE
       go_wp2
       go_ret
       exact ⟨ret_bool (eqSt_ne (fun h => HNE.out (fun h2 => HP.out (HEN.out h2).1) h)), bel_trans hvb hw2⟩
     ·have q2 : (u != v) = true := by simp [huv]
      have HP := Lib.hid huv
      clear huv
      go_wp2_with fail
      refine wp_region_noPanic ?_
      refine wp_region_held_drew (S := (fun W => Below WX.heap.size WX W ∧ W.cell? ⟨w.heap.size, 0, none⟩ = some (.int .i64 a) ∧ W.cell? ⟨w.heap.size, 1, none⟩ = some (.slice (some ⟨b1, o1, none⟩) (List.length x) c1) ∧ W.cell? ⟨w.heap.size + 1, 0, none⟩ = some (.int .i64 a) ∧ W.cell? ⟨w.heap.size + 1, 1, none⟩ = some (.slice (some ⟨b2, o2, none⟩) (List.length y) c2) ∧ W.cell? ⟨b1, o1 + k * 6, none⟩ = some (.slice P00 (List.length p.1) Pa) ∧ W.cell? ⟨b1, o1 + k * 6 + 1, none⟩ = some (.slice P01 (List.length p.2.1) Pb) ∧ W.cell? ⟨b1, o1 + k * 6 + 2, none⟩ = some (.slice P02 (List.length p.2.2.1) Pc) ∧ W.cell? ⟨b1, o1 + k * 6 + 3, none⟩ = some (.int .i64 p.2.2.2.1) ∧ W.cell? ⟨b1, o1 + k * 6 + 4, none⟩ = some (.int .i64 p.2.2.2.2) ∧ W.cell? ⟨b1, o1 + k * 6 + 5, none⟩ = some (.int .i64 u) ∧ W.cell? ⟨b2, o2 + k * 6, none⟩ = some (.slice R00 (List.length q.1) Ra) ∧ W.cell? ⟨b2, o2 + k * 6 + 1, none⟩ = some (.slice R01 (List.length q.2.1) Rb) ∧ W.cell? ⟨b2, o2 + k * 6 + 2, none⟩ = some (.slice R02 (List.length q.2.2.1) Rc) ∧ W.cell? ⟨b2, o2 + k * 6 + 3, none⟩ = some (.int .i64 q.2.2.2.1) ∧ W.cell? ⟨b2, o2 + k * 6 + 4, none⟩ = some (.int .i64 q.2.2.2.2) ∧ W.cell? ⟨b2, o2 + k * 6 + 5, none⟩ = some (.int .i64 v))) b_31 ?_ (fun hHeld => ?_)
      ·exact HS.out _ b_6
      refine tkz4 0 1 2 3 ?_
      try simp only [layz]
      refine tkz4 4 5 6 7 ?_
      try simp only [layz]
      refine tkz4 8 9 10 11 ?_
      try simp only [layz]
      refine tkz2 12 13 ?_
      try simp only [layz]
      refine skz 14 ?_
      try simp only [layz]
      refine skz 15 ?_
      try simp only [layz]
      refine skz 16 ?_
      try simp only [layz]
      refine skz 17 ?_
      try simp only [layz]
      refine skz 18 ?_
      try simp only [layz]
      refine skz 19 ?_
      try simp only [layz]
      refine skz 20 ?_
      try simp only [layz]
      refine skz 21 ?_
      try simp only [layz]
      refine skz 22 ?_
      try simp only [layz]
      refine skz 23 ?_
      try simp only [layz]
      refine skz 24 ?_
      try simp only [layz]
      refine skz 25 ?_
      try simp only [layz]
      refine skz 26 ?_
      try simp only [layz]
      refine skz 27 ?_
      try simp only [layz]
      refine tkz 28 ?_
      try simp only [layz]
      refine wpAnyH_done b_31 ?_ _
      refine NoPanic.normal ?_
      go_wp2
      go_ret
      exact ⟨ret_bool (eqSt_ne (fun h => HNE.out (fun h2 => HP.out (HEN.out h2).2) h)), b_2⟩
    ·have HE : Hid (x = y) := by
      have h1 := HT.out
      rw [List.take_of_length_le b_34, List.take_of_length_le (by have := HL.out; omega)] at h1
      exact Lib.hid h1
     go_wp2
     go_ret
     exact ⟨ret_bool (by unfold f_EqualContentStores; rw [HE.out]; simp), hbw⟩
  ·have q1 : ((x.length : Int) != y.length) = true := by rw [bne_iff_ne]; omega
   have HE : Hid (¬ x = y) := fun h => hl (congrArg List.length h)
   go_wp2
   go_ret
   exact ⟨ret_bool (eqSt_ne HE.out), b_6⟩
 ·have q0 : (!a == b) = true := by simp [hab]
  have HE := Lib.hid hab
  clear hab
  go_wp2
  go_ret
  exact ⟨ret_bool (by unfold f_EqualContentStores; symm; apply decide_eq_false; intro h; exact HE.out (congrArg Prod.fst h)), b_6⟩
theorem C_laws_sameNames (w : World) (v1 v2 : Value) (x : List (Ty.D (.sl .str))) (h1 : (Ty.sl (.sl .str)).rd w [v1] x) (h2 : (Ty.sl (.sl .str)).rd w [v2] x) :
  Calls Try.prog 37 #[v1, v2] w (RetB w true) := by
 obtain ⟨A1, c1, rfl, hc1, hm1, hn1⟩ := Ty.rd_sl h1
 obtain ⟨A2, c2, rfl, hc2, hm2, hn2⟩ := Ty.rd_sl h2
 have hne : ((x.length : Int) != x.length) = false := by simp
 go_enter Try.func37, Try.ntmps37
 go_wp2
 go_loopw [5] (fun i wr => ∃ k : Nat, k ≤ x.length ∧ i = .int .i64 k ∧ Below w.heap.size w wr) (fun i _ => x.length - (intOf i).toNat)
 case atStart => exact ⟨0, by omega, rfl, Below.refl _ _⟩
 case round =>
  obtain ⟨k, hk, rfl, hb⟩ := hrel
  by_cases hlt : k < x.length
  ·obtain ⟨b1, o1, ds1, rfl, hl1, hcell1, hrd1⟩ := Ty.rd_at (Ty.rd_below hb h1) hlt
   have sag0 := hrd1
   obtain ⟨Aa, ca, rfl⟩ := Ty.rd_slv hrd1
   have e0 : wr.cell? ⟨b1, o1 + k, none⟩ = some (.slice Aa (List.length x[k]) ca) := by simpa [Ty.sz] using hcell1 0 b_33
   clear hcell1 hl1
   obtain ⟨b2, o2, ds2, rfl, hl2, hcell2, hrd2⟩ := Ty.rd_at (Ty.rd_below hb h2) hlt
   have tbg0 := hrd2
   obtain ⟨Ab, cb, rfl⟩ := Ty.rd_slv hrd2
   have d0 : wr.cell? ⟨b2, o2 + k, none⟩ = some (.slice Ab (List.length x[k]) cb) := by simpa [Ty.sz] using hcell2 0 b_33
   clear hcell2 hl2
   have i3 : (0 : Int) ≤ (k : Int) := by omega
   have i4 : (k : Int) < (List.length x : Int) := by omega
   have z1 : b1 < wr.heap.size := World.block_lt_of_cell? _ _ e0
   have z2 : b2 < wr.heap.size := World.block_lt_of_cell? _ _ d0
   have HS : Hid (∀ W, Below wr.heap.size wr W → Below w.heap.size w W ∧ W.cell? ⟨b1, o1 + k, none⟩ = some (.slice Aa (List.length x[k]) ca) ∧ W.cell? ⟨b2, o2 + k, none⟩ = some (.slice Ab (List.length x[k]) cb)) := fun W hW =>
    ⟨bel_trans hb hW, (hW.cell (p := ⟨b1, _, none⟩) z1).trans e0, (hW.cell (p := ⟨b2, _, none⟩) z2).trans d0⟩
   go_wp2_with fail
   refine wp_region_noPanic ?_
   refine wp_region_held_drew (S := (fun W => Below w.heap.size w W ∧ W.cell? ⟨b1, o1 + k, none⟩ = some (.slice Aa (List.length x[k]) ca) ∧ W.cell? ⟨b2, o2 + k, none⟩ = some (.slice Ab (List.length x[k]) cb))) b_31 ?_ (fun hHeld => ?_)
   ·exact HS.out _ b_6
   refine tkz4 0 1 2 3 ?_
   try simp only [layz]
   refine tkz4 4 5 6 7 ?_
   try simp only [layz]
   refine rz1 8 (fun K hK => ?_)
   go_simp
   go_at_call 13
   refine (C_laws_sameNameG _ _ _ x[k] x[k] (Ty.rd_below b_6 sag0) (Ty.rd_below b_6 tbg0)).mono ?_
   rw [show decide (x[k] = x[k]) = true from by simp]
   rintro e w1 ⟨rfl, hb1⟩
   have hw1 : Below w.heap.size w w1 := bel_trans b_6 hb1
   have hv1 : Below wr.heap.size wr w1 := bel_trans b_6 hb1
   refine hK.out _ _ (HS.out _ hv1) (fun hHeld => ?_)
   clear hK K
   try simp only [layz]
   refine tkz 9 ?_
   try simp only [layz]
   refine wpAnyH_done b_31 ?_ _
   refine NoPanic.normal ?_
   go_wp2
   go_roundw
   case rel => exact ⟨k + 1, by omega, by go_num, hw1⟩
   case measure => simp [intOf]; omega
  ·go_wp2
   go_ret
   exact ⟨rfl, hb⟩
end Go.Proofs.Ytldgbnlcnlfmeaa
