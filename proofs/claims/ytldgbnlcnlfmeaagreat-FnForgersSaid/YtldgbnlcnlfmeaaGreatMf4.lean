/- Texts of this claim, merged by a program: Key Kdg. -/
import Derived.Test.YtldgbnlcnlfmeaaGreatMf1
import Derived.Test.YtldgbnlcnlfmeaaGreatMf3
import Derived.Test.YtldgbnlcnlfmeaaGreatMf2
/- Data and keys: the walks. Printed by gen4.py. -/
namespace Go.Proofs.YtldgbnlcnlfmeaaGreat
open Go.RowKit
set_option linter.unusedVariables false
set_option linter.unusedSimpArgs false

def f_ValidData (x : tData.D) : Bool := validName x.1 && (decide (0 < x.1.length) && (decide (x.2.1.length ≤ 60) && (validName x.2.2.1 && (inR x.2.2.2.1 0 100000 && inR x.2.2.2.2 0 2147483646))))
set_option maxHeartbeats 1000000 in
theorem C_spec_ValidDataG (w : World) (cs1 : List Value) (x : tData.D) (h1 : tData.rd w cs1 x) :
    Calls Tryz.prog 65 #[.agg cs1.toArray] w (RetB w (f_ValidData x)) := by
  obtain ⟨A0, c0, A1, c1, A2, c2, rfl, g0, g1, g2, b3, b4⟩ := rd_Data h1
  obtain ⟨_, _, _, _, _, n0⟩ := Ty.rd_sl g0
  obtain ⟨_, _, _, _, _, n1⟩ := Ty.rd_sl g1
  obtain ⟨_, _, _, _, _, n2⟩ := Ty.rd_sl g2
  have hF : f_ValidData x = (validName x.1 && (decide (0 < x.1.length) && (decide (x.2.1.length ≤ 60) && (validName x.2.2.1 && (inR x.2.2.2.1 0 100000 && inR x.2.2.2.2 0 2147483646))))) := rfl
  generalize f_ValidData x = F at hF ⊢
  have HF := Lib.hid hF
  clear hF
  go_enter Tryz.func65, Tryz.ntmps65
  go_wp2_with fail
  refine (C_spec_ValidName _ _ _ (Ty.rd_below (by repeat' (first | (with_reducible exact Below.refl _ _) | (with_reducible assumption) | (with_reducible refine bel_set ?_ (by (try dsimp only); omega) _) | (with_reducible refine bel_alloc ?_ _) | (with_reducible refine bel_drewN ?_ _) | (with_reducible refine bel_drew ?_))) g0)).mono ?_
  rintro e w1 ⟨rfl, hb1⟩
  have hw1 : Below w.heap.size w w1 := bel_trans (by repeat' (first | (with_reducible exact Below.refl _ _) | (with_reducible assumption) | (with_reducible refine bel_set ?_ (by (try dsimp only); omega) _) | (with_reducible refine bel_alloc ?_ _) | (with_reducible refine bel_drewN ?_ _) | (with_reducible refine bel_drew ?_))) hb1
  obtain ⟨hc1, hf1⟩ := bcell hb1
  have z10 : w.heap.size < w1.heap.size := by have := hb1.size; simp only [World.size_alloc] at this; omega
  cases q0 : validName x.1
  · rw [q0] at HF
    go_wp2
    go_ret
    exact ⟨ret_bool (by rw [HF.out]; rfl), hw1⟩
  rw [q0] at HF
  by_cases hl1 : 0 < x.1.length
  rotate_left
  · have H1 := Lib.hid hl1
    go_wp2
    go_ret
    exact ⟨ret_bool (by rw [HF.out]; simp [H1.out]), hw1⟩
  have H1 := Lib.hid hl1
  by_cases hl2 : x.2.1.length ≤ 60
  rotate_left
  · have H2 := Lib.hid hl2
    go_wp2
    go_ret
    exact ⟨ret_bool (by rw [HF.out]; simp [H2.out]), hw1⟩
  have H2 := Lib.hid hl2
  go_wp2_with fail
  refine (C_spec_ValidName _ _ _ (Ty.rd_below (by repeat' (first | (with_reducible exact Below.refl _ _) | (with_reducible assumption) | (with_reducible refine bel_set ?_ (by (try dsimp only); omega) _) | (with_reducible refine bel_alloc ?_ _) | (with_reducible refine bel_drewN ?_ _) | (with_reducible refine bel_drew ?_))) g2)).mono ?_
  rintro e w2 ⟨rfl, hb2⟩
  have hw2 : Below w.heap.size w w2 := bel_trans (by repeat' (first | (with_reducible exact Below.refl _ _) | (with_reducible assumption) | (with_reducible refine bel_set ?_ (by (try dsimp only); omega) _) | (with_reducible refine bel_alloc ?_ _) | (with_reducible refine bel_drewN ?_ _) | (with_reducible refine bel_drew ?_))) hb2
  obtain ⟨hc2, hf2⟩ := bcell hb2
  have z20 : w.heap.size < w2.heap.size := by have := hb2.size; omega
  cases q3 : validName x.2.2.1
  · rw [q3] at HF
    go_wp2
    go_ret
    exact ⟨ret_bool (by rw [HF.out]; simp), hw2⟩
  rw [q3] at HF
  go_wp2_with fail
  refine (C_spec_l1In _ _ _ _).mono ?_
  rintro e w3 ⟨rfl, rfl⟩
  cases q4 : inR x.2.2.2.1 0 100000
  · rw [q4] at HF
    go_wp2
    go_ret
    exact ⟨ret_bool (by rw [HF.out]; simp), hw2⟩
  rw [q4] at HF
  go_wp2_with fail
  refine (C_spec_l1In _ _ _ _).mono ?_
  rintro e w4 ⟨rfl, rfl⟩
  go_wp2
  go_ret
  exact ⟨ret_bool (by rw [HF.out]; simp [H1.out, H2.out]), hw2⟩
theorem C_spec_ValidData (w : World) (cs1 : List Value) (x : tData.D) (h1 : tData.rd w cs1 x) (s0 : Ty.bulk tData x ≤ 1048576) :
    Calls Tryz.prog 65 #[.agg cs1.toArray] w (RetB w (f_ValidData x)) := C_spec_ValidDataG w cs1 x h1
set_option maxHeartbeats 1000000 in
theorem C_impl_ValidDataG (w : World) (cs1 : List Value) (x : tData.D) (h1 : tData.rd w cs1 x) :
    Calls Tryz.prog 53 #[.agg cs1.toArray] w (RetB w (f_ValidData x)) := by
  obtain ⟨A0, c0, A1, c1, A2, c2, rfl, g0, g1, g2, b3, b4⟩ := rd_Data h1
  obtain ⟨_, _, _, _, _, n0⟩ := Ty.rd_sl g0
  obtain ⟨_, _, _, _, _, n1⟩ := Ty.rd_sl g1
  obtain ⟨_, _, _, _, _, n2⟩ := Ty.rd_sl g2
  have hF : f_ValidData x = (validName x.1 && (decide (0 < x.1.length) && (decide (x.2.1.length ≤ 60) && (validName x.2.2.1 && (inR x.2.2.2.1 0 100000 && inR x.2.2.2.2 0 2147483646))))) := rfl
  generalize f_ValidData x = F at hF ⊢
  have HF := Lib.hid hF
  clear hF
  go_enter Tryz.func53, Tryz.ntmps53
  go_wp2_with fail
  refine (C_impl_ValidName _ _ _ (Ty.rd_below (by repeat' (first | (with_reducible exact Below.refl _ _) | (with_reducible assumption) | (with_reducible refine bel_set ?_ (by (try dsimp only); omega) _) | (with_reducible refine bel_alloc ?_ _) | (with_reducible refine bel_drewN ?_ _) | (with_reducible refine bel_drew ?_))) g0)).mono ?_
  rintro e w1 ⟨rfl, hb1⟩
  have hw1 : Below w.heap.size w w1 := bel_trans (by repeat' (first | (with_reducible exact Below.refl _ _) | (with_reducible assumption) | (with_reducible refine bel_set ?_ (by (try dsimp only); omega) _) | (with_reducible refine bel_alloc ?_ _) | (with_reducible refine bel_drewN ?_ _) | (with_reducible refine bel_drew ?_))) hb1
  obtain ⟨hc1, hf1⟩ := bcell hb1
  have z10 : w.heap.size < w1.heap.size := by have := hb1.size; simp only [World.size_alloc] at this; omega
  cases q0 : validName x.1
  · rw [q0] at HF
    go_wp2
    go_ret
    exact ⟨ret_bool (by rw [HF.out]; rfl), hw1⟩
  rw [q0] at HF
  by_cases hl1 : 0 < x.1.length
  rotate_left
  · have H1 := Lib.hid hl1
    go_wp2
    go_ret
    exact ⟨ret_bool (by rw [HF.out]; simp [H1.out]), hw1⟩
  have H1 := Lib.hid hl1
  by_cases hl2 : x.2.1.length ≤ 60
  rotate_left
  · have H2 := Lib.hid hl2
    go_wp2
    go_ret
    exact ⟨ret_bool (by rw [HF.out]; simp [H2.out]), hw1⟩
  have H2 := Lib.hid hl2
  go_wp2_with fail
  refine (C_impl_ValidName _ _ _ (Ty.rd_below (by repeat' (first | (with_reducible exact Below.refl _ _) | (with_reducible assumption) | (with_reducible refine bel_set ?_ (by (try dsimp only); omega) _) | (with_reducible refine bel_alloc ?_ _) | (with_reducible refine bel_drewN ?_ _) | (with_reducible refine bel_drew ?_))) g2)).mono ?_
  rintro e w2 ⟨rfl, hb2⟩
  have hw2 : Below w.heap.size w w2 := bel_trans (by repeat' (first | (with_reducible exact Below.refl _ _) | (with_reducible assumption) | (with_reducible refine bel_set ?_ (by (try dsimp only); omega) _) | (with_reducible refine bel_alloc ?_ _) | (with_reducible refine bel_drewN ?_ _) | (with_reducible refine bel_drew ?_))) hb2
  obtain ⟨hc2, hf2⟩ := bcell hb2
  have z20 : w.heap.size < w2.heap.size := by have := hb2.size; omega
  cases q3 : validName x.2.2.1
  · rw [q3] at HF
    go_wp2
    go_ret
    exact ⟨ret_bool (by rw [HF.out]; simp), hw2⟩
  rw [q3] at HF
  go_wp2_with fail
  refine (C_impl_InRange _ _ _ _).mono ?_
  rintro e w3 ⟨rfl, rfl⟩
  cases q4 : inR x.2.2.2.1 0 100000
  · rw [q4] at HF
    go_wp2
    go_ret
    exact ⟨ret_bool (by rw [HF.out]; simp), hw2⟩
  rw [q4] at HF
  go_wp2_with fail
  refine (C_impl_InRange _ _ _ _).mono ?_
  rintro e w4 ⟨rfl, rfl⟩
  go_wp2
  go_ret
  exact ⟨ret_bool (by rw [HF.out]; simp [H1.out, H2.out]), hw2⟩
theorem C_impl_ValidData (w : World) (cs1 : List Value) (x : tData.D) (h1 : tData.rd w cs1 x) (s0 : Ty.bulk tData x ≤ 1048576) :
    Calls Tryz.prog 53 #[.agg cs1.toArray] w (RetB w (f_ValidData x)) := C_impl_ValidDataG w cs1 x h1
def sameName (n : List (List UInt8)) (k : Ty.D tKey) : Bool := decide (k.1 = n)
def f_SecretOf (x : List (Ty.D tKey)) (n : List (List UInt8)) : Int := match x.find? (sameName n) with | some k => k.2 | none => 0
theorem find_hit {α : Type} (p : α → Bool) (x : List α) {k : Nat} (h : k < x.length) (ht : (x.take k).any p = false) (hp : p x[k] = true) : x.find? p = some x[k] := by
  rw [List.find?_eq_some_iff_getElem]
  exact ⟨hp, k, h, rfl, fun j hj => by
    have := List.any_eq_false.1 ht ((x.take k)[j]'(by rw [List.length_take]; omega)) (List.getElem_mem _)
    rw [List.getElem_take] at this; simpa using this⟩
theorem find_miss {α : Type} (p : α → Bool) (x : List α) (ht : x.any p = false) : x.find? p = none := by
  rw [List.find?_eq_none]; exact fun a ha => by simpa using List.any_eq_false.1 ht a ha
theorem find_ixf {α : Type} (p : α → Bool) (x : List α) : (ixf p x = -1 ∧ x.find? p = none) ∨ ∃ (k : Nat) (h : k < x.length), ixf p x = k ∧ x.find? p = some x[k] := by
  unfold ixf
  cases hq : x.findIdx? p with
  | none => left; exact ⟨rfl, by rw [List.findIdx?_eq_none_iff] at hq; rw [List.find?_eq_none]; simpa using hq⟩
  | some k =>
    right
    rw [List.findIdx?_eq_some_iff_getElem] at hq
    obtain ⟨h, hp, hj⟩ := hq
    exact ⟨k, h, rfl, by rw [List.find?_eq_some_iff_getElem]; exact ⟨hp, k, h, rfl, fun j hj' => by simpa using hj j hj'⟩⟩
set_option maxHeartbeats 1000000 in
theorem C_spec_l9Find (w : World) (v : Value) (x : List (Ty.D tKey)) (cs2 : List Value) (n : List (List UInt8)) (h1 : (Ty.sl tKey).rd w [v] x) (h2 : (Ty.sl .str).rd w cs2 n) :
    Calls Tryz.prog 80 #[v, .agg cs2.toArray] w (RetI w (ixf (sameName n) x)) := by
  obtain ⟨A1, c1, rfl, hc1, hm1, hn1⟩ := Ty.rd_sl h1
  obtain ⟨A2, c2, rfl⟩ := Ty.rd_slv h2
  go_enter Tryz.func80, Tryz.ntmps80
  go_wp2
  go_loopw [5] (fun i wr => ∃ k : Nat, k ≤ x.length ∧ i = .int .i64 k ∧ (x.take k).any (sameName n) = false ∧ Below (w.alloc (.cells #[.slice A2 n.length c2] 32)).heap.size (w.alloc (.cells #[.slice A2 n.length c2] 32)) wr) (fun i _ => x.length - (intOf i).toNat)
  case atStart => exact ⟨0, by omega, rfl, by first | rfl | simp, Below.refl _ _⟩
  case round =>
    obtain ⟨k, hk, rfl, ht, hb⟩ := hrel
    have hw : Below w.heap.size w wr := bel_trans (by repeat' (first | (with_reducible exact Below.refl _ _) | (with_reducible assumption) | (with_reducible refine bel_set ?_ (by (try dsimp only); omega) _) | (with_reducible refine bel_alloc ?_ _) | (with_reducible refine bel_drewN ?_ _) | (with_reducible refine bel_drew ?_))) hb
    obtain ⟨hc, hf⟩ := bcell hb
    have HT := Lib.hid ht
    clear ht
    by_cases hlt : k < x.length
    · have HS := Lib.hid (any_take_succ (sameName n) x hlt)
      obtain ⟨b, o, ds, rfl, hl, hcell, hrd⟩ := Ty.rd_at (Ty.rd_below hw h1) hlt
      obtain ⟨Aa0, ca0, rfl, sag0, sag1⟩ := rd_Key hrd
      have e0 : wr.cell? ⟨b, o + k * 2, none⟩ = some (.slice Aa0 (List.length x[k].1) ca0) := by simpa [Ty.sz] using hcell 0 (by decide)
      clear hcell hl
      go_wp2_with fail
      set_option maxRecDepth 100000 in go_still_tail 6, (by kernel_rfl)
      go_wp2_with fail
      refine (C_spec_EqualNames _ _ _ _ _ (Ty.rd_below (by repeat' (first | (with_reducible exact Below.refl _ _) | (with_reducible assumption) | (with_reducible refine bel_set ?_ (by (try dsimp only); omega) _) | (with_reducible refine bel_alloc ?_ _) | (with_reducible refine bel_drewN ?_ _) | (with_reducible refine bel_drew ?_))) sag0) (Ty.rd_below (bel_drew hw) h2)).mono ?_
      rintro e w1 ⟨rfl, hb1⟩
      have hb2 := bel_trans (bel_drew hb) hb1
      have hw1 : Below w.heap.size w w1 := bel_trans (by repeat' (first | (with_reducible exact Below.refl _ _) | (with_reducible assumption) | (with_reducible refine bel_set ?_ (by (try dsimp only); omega) _) | (with_reducible refine bel_alloc ?_ _) | (with_reducible refine bel_drewN ?_ _) | (with_reducible refine bel_drew ?_))) hb2
      cases hq : decide (x[k].1 = n)
      · have HQ := Lib.hid hq
        go_wp2
        go_roundw
        case rel => exact ⟨k + 1, by omega, by go_num, by rw [HS.out, HT.out, show sameName n x[k] = false from HQ.out]; rfl, hb2⟩
        case measure => simp [intOf]; omega
      · have HQ := Lib.hid hq
        go_wp2
        go_ret
        exact ⟨ret_int (ixf_hit (sameName n) x hlt HT.out HQ.out).symm, hw1⟩
    · have HE : Hid (x.any (sameName n) = false) := by have := HT.out; rwa [List.take_of_length_le (by omega)] at this
      go_wp2
      go_ret
      exact ⟨ret_int (ixf_miss (sameName n) x HE.out).symm, hw⟩
set_option maxHeartbeats 1000000 in
theorem C_spec_SecretOf (w : World) (v : Value) (x : List (Ty.D tKey)) (cs2 : List Value) (n : List (List UInt8)) (h1 : (Ty.sl tKey).rd w [v] x) (h2 : (Ty.sl .str).rd w cs2 n) (s0 : Ty.bulk (.sl tKey) x ≤ 1048576) (s1 : Ty.bulk (.sl .str) n ≤ 1048576) :
    Calls Tryz.prog 48 #[v, .agg cs2.toArray] w (RetI w (f_SecretOf x n)) := by
  obtain ⟨A1, c1, rfl, hc1, hm1, hn1⟩ := Ty.rd_sl h1
  obtain ⟨A2, c2, rfl⟩ := Ty.rd_slv h2
  go_enter Tryz.func48, Tryz.ntmps48
  go_wp2_with fail
  refine (C_spec_l9Find _ _ _ _ _ (Ty.rd_below (by repeat' (first | (with_reducible exact Below.refl _ _) | (with_reducible assumption) | (with_reducible refine bel_set ?_ (by (try dsimp only); omega) _) | (with_reducible refine bel_alloc ?_ _) | (with_reducible refine bel_drewN ?_ _) | (with_reducible refine bel_drew ?_))) h1) (Ty.rd_below (by repeat' (first | (with_reducible exact Below.refl _ _) | (with_reducible assumption) | (with_reducible refine bel_set ?_ (by (try dsimp only); omega) _) | (with_reducible refine bel_alloc ?_ _) | (with_reducible refine bel_drewN ?_ _) | (with_reducible refine bel_drew ?_))) h2)).mono ?_
  rintro e w1 ⟨rfl, hb1⟩
  have hw1 : Below w.heap.size w w1 := bel_trans (by repeat' (first | (with_reducible exact Below.refl _ _) | (with_reducible assumption) | (with_reducible refine bel_set ?_ (by (try dsimp only); omega) _) | (with_reducible refine bel_alloc ?_ _) | (with_reducible refine bel_drewN ?_ _) | (with_reducible refine bel_drew ?_))) hb1
  rcases find_ixf (sameName n) x with ⟨hi, hf⟩ | ⟨k, hk, hi, hf⟩
  · rw [hi]
    have HF := Lib.hid hf
    clear hi hf
    go_wp2
    go_ret
    exact ⟨ret_int (by unfold f_SecretOf; rw [HF.out]), hw1⟩
  · rw [hi]
    have HF := Lib.hid hf
    clear hi hf
    obtain ⟨b, o, ds, rfl, hl, hcell, hrd⟩ := Ty.rd_at (Ty.rd_below hw1 h1) hk
    obtain ⟨Aa0, ca0, rfl, sag0, sag1⟩ := rd_Key hrd
    have e1 : w1.cell? ⟨b, o + k * 2 + 1, none⟩ = some (.int .i64 x[k].2) := by simpa [Ty.sz] using hcell 1 (by decide)
    clear hcell hl
    go_wp2
    go_ret
    exact ⟨ret_int (by unfold f_SecretOf; rw [HF.out]), hw1⟩
set_option maxHeartbeats 1000000 in
theorem C_impl_SecretOf (w : World) (v : Value) (x : List (Ty.D tKey)) (cs2 : List Value) (n : List (List UInt8)) (h1 : (Ty.sl tKey).rd w [v] x) (h2 : (Ty.sl .str).rd w cs2 n) (s0 : Ty.bulk (.sl tKey) x ≤ 1048576) (s1 : Ty.bulk (.sl .str) n ≤ 1048576) :
    Calls Tryz.prog 47 #[v, .agg cs2.toArray] w (RetI w (f_SecretOf x n)) := by
  obtain ⟨A1, c1, rfl, hc1, hm1, hn1⟩ := Ty.rd_sl h1
  obtain ⟨A2, c2, rfl⟩ := Ty.rd_slv h2
  go_enter Tryz.func47, Tryz.ntmps47
  go_wp2
  go_loopw [9] (fun i wr => ∃ k : Nat, k ≤ x.length ∧ i = .int .i64 k ∧ (x.take k).any (sameName n) = false ∧ Below (w.alloc (.cells #[.slice A2 n.length c2] 32)).heap.size (w.alloc (.cells #[.slice A2 n.length c2] 32)) wr) (fun i _ => x.length - (intOf i).toNat)
  case atStart => exact ⟨0, by omega, rfl, by first | rfl | simp, Below.refl _ _⟩
  case round =>
    obtain ⟨k, hk, rfl, ht, hb⟩ := hrel
    have hw : Below w.heap.size w wr := bel_trans (by repeat' (first | (with_reducible exact Below.refl _ _) | (with_reducible assumption) | (with_reducible refine bel_set ?_ (by (try dsimp only); omega) _) | (with_reducible refine bel_alloc ?_ _) | (with_reducible refine bel_drewN ?_ _) | (with_reducible refine bel_drew ?_))) hb
    obtain ⟨hc, hf⟩ := bcell hb
    have zr : w.heap.size < wr.heap.size := by have := hb.size; simp only [World.size_alloc] at this; omega
    have HT := Lib.hid ht
    clear ht
    by_cases hlt : k < x.length
    · have HS := Lib.hid (any_take_succ (sameName n) x hlt)
      obtain ⟨b, o, ds, rfl, hl, hcell, hrd⟩ := Ty.rd_at (Ty.rd_below hw h1) hlt
      obtain ⟨Aa0, ca0, rfl, sag0, sag1⟩ := rd_Key hrd
      have e0 : wr.cell? ⟨b, o + k * 2, none⟩ = some (.slice Aa0 (List.length x[k].1) ca0) := by simpa [Ty.sz] using hcell 0 (by decide)
      have e1 : wr.cell? ⟨b, o + k * 2 + 1, none⟩ = some (.int .i64 x[k].2) := by simpa [Ty.sz] using hcell 1 (by decide)
      clear hcell hl
      go_wp2_with fail
      refine (C_impl_EqualNames _ _ _ _ _ (Ty.rd_below (by repeat' (first | (with_reducible exact Below.refl _ _) | (with_reducible assumption) | (with_reducible refine bel_set ?_ (by (try dsimp only); omega) _) | (with_reducible refine bel_alloc ?_ _) | (with_reducible refine bel_drewN ?_ _) | (with_reducible refine bel_drew ?_))) sag0) (Ty.rd_below (bel_trans hw (by repeat' (first | (with_reducible exact Below.refl _ _) | (with_reducible assumption) | (with_reducible refine bel_set ?_ (by (try dsimp only); omega) _) | (with_reducible refine bel_alloc ?_ _) | (with_reducible refine bel_drewN ?_ _) | (with_reducible refine bel_drew ?_)))) h2)).mono ?_
      rintro e w1 ⟨rfl, hb1⟩
      have hb1' : Below wr.heap.size wr w1 := bel_trans (by repeat' (first | (with_reducible exact Below.refl _ _) | (with_reducible assumption) | (with_reducible refine bel_set ?_ (by (try dsimp only); omega) _) | (with_reducible refine bel_alloc ?_ _) | (with_reducible refine bel_drewN ?_ _) | (with_reducible refine bel_drew ?_))) hb1
      have hb2 := bel_trans hb hb1'
      have hw1 : Below w.heap.size w w1 := bel_trans (by repeat' (first | (with_reducible exact Below.refl _ _) | (with_reducible assumption) | (with_reducible refine bel_set ?_ (by (try dsimp only); omega) _) | (with_reducible refine bel_alloc ?_ _) | (with_reducible refine bel_drewN ?_ _) | (with_reducible refine bel_drew ?_))) hb2
      obtain ⟨hc1, hf1⟩ := bcell hb1
      have z1 : wr.heap.size < w1.heap.size := by have := hb1.size; simp only [World.size_alloc, World.size_setCell] at this; omega
      cases hq : decide (x[k].1 = n)
      · have HQ := Lib.hid hq
        go_wp2
        go_roundw
        case rel => exact ⟨k + 1, by omega, by go_num, by rw [HS.out, HT.out, show sameName n x[k] = false from HQ.out]; rfl, hb2⟩
        case measure => simp [intOf]; omega
      · have HQ := Lib.hid hq
        go_wp2
        go_ret
        exact ⟨ret_int (by unfold f_SecretOf; rw [find_hit (sameName n) x hlt HT.out HQ.out]), hw1⟩
    · have HE : Hid (x.any (sameName n) = false) := by have := HT.out; rwa [List.take_of_length_le (by omega)] at this
      go_wp2
      go_ret
      exact ⟨ret_int (by unfold f_SecretOf; rw [find_miss (sameName n) x HE.out]), hw⟩
end Go.Proofs.YtldgbnlcnlfmeaaGreat

/- The digest of a key. -/
namespace Go.Proofs.YtldgbnlcnlfmeaaGreat
open Go.RowKit
set_option linter.unusedVariables false
set_option linter.unusedSimpArgs false

theorem secret_bd {w : World} {v : Value} {x : List (Ty.D tKey)} (n : List (List UInt8)) (h : (Ty.sl tKey).rd w [v] x) : -9223372036854775808 ≤ f_SecretOf x n ∧ f_SecretOf x n ≤ 9223372036854775807 := by
  obtain ⟨A, c, rfl, hc, hm, hn⟩ := Ty.rd_sl h
  unfold f_SecretOf
  rcases find_ixf (sameName n) x with ⟨_, hf⟩ | ⟨k, hk, _, hf⟩
  · rw [hf]; exact ⟨by decide, by decide⟩
  · rw [hf]
    obtain ⟨b, o, ds, _, hl, hcell, hrd⟩ := Ty.rd_at h hk
    obtain ⟨_, _, _, _, hb⟩ := rd_Key hrd
    exact hb
def f_KeyDigest (x : List (Ty.D tKey)) (n : List (List UInt8)) : List UInt8 := if f_SecretOf x n = 0 then [] else f_AppendVarint [] (digest [f_SecretOf x n])
theorem rd_empty (w : World) {e : Ty} (A : Option Addr) : (Ty.sl e).rd w [.slice A 0 0] [] := ⟨A, 0, rfl, Nat.le_refl _, ⟨Nat.zero_le _, fun _ => rfl⟩, by simp, fun h => absurd h (by simp)⟩
set_option maxHeartbeats 1000000 in
theorem C_spec_KeyDigest (w : World) (v : Value) (x : List (Ty.D tKey)) (cs2 : List Value) (n : List (List UInt8)) (h1 : (Ty.sl tKey).rd w [v] x) (h2 : (Ty.sl .str).rd w cs2 n) (s0 : Ty.bulk (.sl tKey) x ≤ 1048576) (s1 : Ty.bulk (.sl .str) n ≤ 1048576) :
    Calls Tryz.prog 28 #[v, .agg cs2.toArray] w (RetSl w .byte (f_KeyDigest x n)) := by
  obtain ⟨A2, c2, rfl⟩ := Ty.rd_slv h2
  have hbd := secret_bd n h1
  go_enter Tryz.func28, Tryz.ntmps28
  go_wp2_with fail
  refine (C_spec_SecretOf _ _ _ _ _ (Ty.rd_below (by repeat' (first | (with_reducible exact Below.refl _ _) | (with_reducible assumption) | (with_reducible refine bel_set ?_ (by (try dsimp only); omega) _) | (with_reducible refine bel_alloc ?_ _) | (with_reducible refine bel_drewN ?_ _) | (with_reducible refine bel_drew ?_))) h1) (Ty.rd_below (by repeat' (first | (with_reducible exact Below.refl _ _) | (with_reducible assumption) | (with_reducible refine bel_set ?_ (by (try dsimp only); omega) _) | (with_reducible refine bel_alloc ?_ _) | (with_reducible refine bel_drewN ?_ _) | (with_reducible refine bel_drew ?_))) h2) s0 s1).mono ?_
  rintro e w1 ⟨rfl, hb1⟩
  have hw1 : Below w.heap.size w w1 := bel_trans (by repeat' (first | (with_reducible exact Below.refl _ _) | (with_reducible assumption) | (with_reducible refine bel_set ?_ (by (try dsimp only); omega) _) | (with_reducible refine bel_alloc ?_ _) | (with_reducible refine bel_drewN ?_ _) | (with_reducible refine bel_drew ?_))) hb1
  have HF := Lib.hid (show f_KeyDigest x n = if f_SecretOf x n = 0 then [] else f_AppendVarint [] (digest [f_SecretOf x n]) from rfl)
  generalize f_SecretOf x n = s at HF hbd ⊢
  by_cases hs : s = 0
  · subst hs
    go_wp2
    go_ret
    have hr : Row flatB (w1.alloc (.cells #[] 5)) w.heap.size 5 (.slice (some ⟨w1.heap.size, 0, none⟩) 0 0) [] := Row.lit0 flatB w1 5 hw1.size
    rw [HF.out, if_pos trivial]
    exact RetRow.sl ⟨_, rfl, hr, (by repeat' (first | (with_reducible exact Below.refl _ _) | (with_reducible assumption) | (with_reducible refine bel_set ?_ (by (try dsimp only); omega) _) | (with_reducible refine bel_alloc ?_ _) | (with_reducible refine bel_drewN ?_ _) | (with_reducible refine bel_drew ?_)))⟩
  · have HS := Lib.hid hs
    have hrd := (Row.lit1 flatI (w1.alloc (.cells #[] 5)) 3 s (okI hbd.1 hbd.2) (Nat.le_refl _)).rd (by (try simp only [World.size_alloc, World.size_setCell, size_drewN, World.size_drew]); omega)
    rw [World.size_alloc] at hrd
    have HRD := Lib.hid hrd
    clear hrd
    go_wp2_with fail
    refine (C_spec_Digest _ _ [s] HRD.out).mono ?_
    rintro e w2 ⟨rfl, hb2⟩
    have hw2 : Below w.heap.size w w2 := bel_trans (by repeat' (first | (with_reducible exact Below.refl _ _) | (with_reducible assumption) | (with_reducible refine bel_set ?_ (by (try dsimp only); omega) _) | (with_reducible refine bel_alloc ?_ _) | (with_reducible refine bel_drewN ?_ _) | (with_reducible refine bel_drew ?_))) hb2
    have hd := digest_le [s]
    go_wp2_with fail
    refine (C_spec_AppendVarint _ _ [] _ (rd_empty _ _) (by simp) (by omega)).mono ?_
    rintro e w3 ⟨v3, rfl, hr3, hb3⟩
    have hw3 : Below w.heap.size w w3 := bel_trans hw2 hb3
    have HR := Lib.hid (hr3.mono hw2.size)
    clear hr3
    go_wp2
    go_ret
    rw [HF.out, if_neg HS.out]
    exact RetRow.sl ⟨_, rfl, HR.out, hw3⟩
set_option maxHeartbeats 1000000 in
theorem C_impl_KeyDigest (w : World) (v : Value) (x : List (Ty.D tKey)) (cs2 : List Value) (n : List (List UInt8)) (h1 : (Ty.sl tKey).rd w [v] x) (h2 : (Ty.sl .str).rd w cs2 n) (s0 : Ty.bulk (.sl tKey) x ≤ 1048576) (s1 : Ty.bulk (.sl .str) n ≤ 1048576) :
    Calls Tryz.prog 27 #[v, .agg cs2.toArray] w (RetSl w .byte (f_KeyDigest x n)) := by
  obtain ⟨A2, c2, rfl⟩ := Ty.rd_slv h2
  have hbd := secret_bd n h1
  go_enter Tryz.func27, Tryz.ntmps27
  go_wp2_with fail
  refine (C_impl_SecretOf _ _ _ _ _ (Ty.rd_below (by repeat' (first | (with_reducible exact Below.refl _ _) | (with_reducible assumption) | (with_reducible refine bel_set ?_ (by (try dsimp only); omega) _) | (with_reducible refine bel_alloc ?_ _) | (with_reducible refine bel_drewN ?_ _) | (with_reducible refine bel_drew ?_))) h1) (Ty.rd_below (by repeat' (first | (with_reducible exact Below.refl _ _) | (with_reducible assumption) | (with_reducible refine bel_set ?_ (by (try dsimp only); omega) _) | (with_reducible refine bel_alloc ?_ _) | (with_reducible refine bel_drewN ?_ _) | (with_reducible refine bel_drew ?_))) h2) s0 s1).mono ?_
  rintro e w1 ⟨rfl, hb1⟩
  have hw1 : Below w.heap.size w w1 := bel_trans (by repeat' (first | (with_reducible exact Below.refl _ _) | (with_reducible assumption) | (with_reducible refine bel_set ?_ (by (try dsimp only); omega) _) | (with_reducible refine bel_alloc ?_ _) | (with_reducible refine bel_drewN ?_ _) | (with_reducible refine bel_drew ?_))) hb1
  have HF := Lib.hid (show f_KeyDigest x n = if f_SecretOf x n = 0 then [] else f_AppendVarint [] (digest [f_SecretOf x n]) from rfl)
  generalize f_SecretOf x n = s at HF hbd ⊢
  by_cases hs : s = 0
  · subst hs
    go_wp2
    go_ret
    rw [HF.out, if_pos trivial]
    exact RetRow.sl (te := 5) (F := flatB) ⟨_, rfl, Row.nil _ _ _ _, hw1⟩
  · have HS := Lib.hid hs
    go_wp2_with fail
    refine (C_impl_Digest _ _ [s] ((Row.lit1 flatI w1 3 s (okI hbd.1 hbd.2) (Nat.le_refl _)).rd (by (try simp only [World.size_alloc, World.size_setCell, size_drewN, World.size_drew]); omega))).mono ?_
    rintro e w2 ⟨rfl, hb2⟩
    have hw2 : Below w.heap.size w w2 := bel_trans (by repeat' (first | (with_reducible exact Below.refl _ _) | (with_reducible assumption) | (with_reducible refine bel_set ?_ (by (try dsimp only); omega) _) | (with_reducible refine bel_alloc ?_ _) | (with_reducible refine bel_drewN ?_ _) | (with_reducible refine bel_drew ?_))) hb2
    have hd := digest_le [s]
    go_wp2_with fail
    refine (C_impl_AppendVarint _ _ [] _ (rd_empty _ _) (by simp) (by omega)).mono ?_
    rintro e w3 ⟨v3, rfl, hr3, hb3⟩
    have hw3 : Below w.heap.size w w3 := bel_trans hw2 hb3
    have HR := Lib.hid (hr3.mono hw2.size)
    clear hr3
    go_wp2
    go_ret
    rw [HF.out, if_neg HS.out]
    exact RetRow.sl ⟨_, rfl, HR.out, hw3⟩
end Go.Proofs.YtldgbnlcnlfmeaaGreat
