/- Comparing names. -/
import Derived.Test.YtldgbnlcnlfmeaaHlp
import Derived.StillTailTactics
import Derived.WalkLawsBesides
namespace Go.Proofs.Ytldgbnlcnlfmeaa
open Go.RowKit
set_option linter.unusedVariables false
set_option linter.unusedSimpArgs false

theorem bytesLess_irrefl : ∀ l : List UInt8, Op.bytesLess l l = false
  | [] => rfl
  | a :: l => by simp [Op.bytesLess, bytesLess_irrefl l]

set_option maxHeartbeats 400000 in
theorem C_spec_l4Cmp (w : World) (a b : List UInt8) :
    Calls Try.prog 177 #[vS a, vS b] w fun e w' => ∃ n : Int, e = .returned (.int .i64 n) ∧ (n = 0 ↔ a = b) ∧ Below w.heap.size w w' := by
  go_enter Try.func177, Try.ntmps177
  go_wp2
  all_goals go_ret
  · rename_i h
    exact ⟨-1, rfl, by (refine ⟨fun h0 => by omega, fun h0 => ?_⟩); subst h0; simp [bytesLess_irrefl] at h, Below.refl _ _⟩
  · rename_i h
    exact ⟨1, rfl, by (refine ⟨fun h0 => by omega, fun h0 => ?_⟩); subst h0; simp at h, Below.refl _ _⟩
  · rename_i h
    exact ⟨0, rfl, by simpa using h, Below.refl _ _⟩

set_option maxHeartbeats 1000000 in
theorem C_spec_CompareNames (w : World) (cs1 cs2 : List Value) (x y : List (List UInt8)) (h1 : (Ty.sl .str).rd w cs1 x) (h2 : (Ty.sl .str).rd w cs2 y) :
    Calls Try.prog 158 #[.agg cs1.toArray, .agg cs2.toArray] w fun e w' => ∃ n : Int, e = .returned (.int .i64 n) ∧ (n = 0 ↔ x = y) ∧ Below w.heap.size w w' := by
  obtain ⟨s1, rfl⟩ := List.length_eq_one_iff.1 (Ty.rd_len h1)
  obtain ⟨s2, rfl⟩ := List.length_eq_one_iff.1 (Ty.rd_len h2)
  obtain ⟨A1, c1, rfl, hc1, hm1, hn1⟩ := Ty.rd_sl h1
  obtain ⟨A2, c2, rfl, hc2, hm2, hn2⟩ := Ty.rd_sl h2
  go_enter Try.func158, Try.ntmps158
  go_wp2
  go_loopw [5] (fun i wr => ∃ k : Nat, k ≤ x.length ∧ k ≤ y.length ∧ i = .int .i64 k ∧ x.take k = y.take k ∧ Below ((w.alloc (.cells #[.slice A1 x.length c1] 27)).alloc (.cells #[.slice A2 y.length c2] 27)).heap.size ((w.alloc (.cells #[.slice A1 x.length c1] 27)).alloc (.cells #[.slice A2 y.length c2] 27)) wr) (fun i _ => x.length - (intOf i).toNat)
  case atStart => exact ⟨0, by omega, by omega, rfl, rfl, Below.refl _ _⟩
  case round =>
    obtain ⟨k, hk1, hk2, rfl, htk, hb⟩ := hrel
    have hw : Below w.heap.size w wr := bel_trans (by repeat' (first | (with_reducible exact Below.refl _ _) | (with_reducible assumption) | (with_reducible refine bel_set ?_ (by (try dsimp only); omega) _) | (with_reducible refine bel_alloc ?_ _) | (with_reducible refine bel_drewN ?_ _) | (with_reducible refine bel_drew ?_))) hb
    obtain ⟨hc, hf⟩ := bcell hb
    have HT := Lib.hid htk
    clear htk
    by_cases hl1 : k < x.length
    · by_cases hl2 : k < y.length
      · obtain ⟨b1, o1, rfl, e1, _⟩ := Ty.rd_str_at (Ty.rd_below hw h1) hl1
        obtain ⟨b2, o2, rfl, e2, _⟩ := Ty.rd_str_at (Ty.rd_below hw h2) hl2
        go_wp2_with fail
        set_option maxRecDepth 100000 in go_still_tail 10, (by kernel_rfl)
        go_wp2_with fail
        refine (C_spec_l4Cmp _ _ _).mono ?_
        rintro e w1 ⟨n, rfl, hn, hb1⟩
        have hb2 : Below ((w.alloc (.cells #[.slice (some ⟨b1, o1, none⟩) x.length c1] 27)).alloc (.cells #[.slice (some ⟨b2, o2, none⟩) y.length c2] 27)).heap.size ((w.alloc (.cells #[.slice (some ⟨b1, o1, none⟩) x.length c1] 27)).alloc (.cells #[.slice (some ⟨b2, o2, none⟩) y.length c2] 27)) w1 := bel_trans (bel_drew hb) hb1
        have hw1 : Below w.heap.size w w1 := bel_trans (by repeat' (first | (with_reducible exact Below.refl _ _) | (with_reducible assumption) | (with_reducible refine bel_set ?_ (by (try dsimp only); omega) _) | (with_reducible refine bel_alloc ?_ _) | (with_reducible refine bel_drewN ?_ _) | (with_reducible refine bel_drew ?_))) hb2
        have HN := Lib.hid hn
        clear hn
        by_cases hn0 : n = 0
        · have q1 : (n != 0) = false := by simp [hn0]
          have HZ := Lib.hid (HN.out.1 hn0)
          clear hn0
          go_wp2
          go_roundw
          case rel => exact ⟨k + 1, by omega, by omega, by go_num, by rw [List.take_succ_eq_append_getElem hl1, List.take_succ_eq_append_getElem hl2, HT.out, HZ.out], hb2⟩
          case measure => simp [intOf]; omega
        · have q1 : (n != 0) = true := by simp [hn0]
          have HZ : Hid (¬ x = y) := fun h => hn0 (HN.out.2 (by subst h; rfl))
          clear hn0
          go_wp2
          go_ret
          exact ⟨n, rfl, ⟨fun h => absurd h (by simpa using q1), fun h => absurd h HZ.out⟩, hw1⟩
      · have hky : k = y.length := by omega
        have HE : Hid (x.length = y.length → x = y) := fun h => by
          have := HT.out
          rwa [hky, List.take_length, ← h, List.take_length] at this
        clear hky
        go_wp2
        all_goals go_ret
        all_goals first
          | exact ⟨-1, rfl, ⟨fun h => by omega, fun h => by (have := congrArg List.length h; omega)⟩, hw⟩
          | exact ⟨1, rfl, ⟨fun h => by omega, fun h => by (have := congrArg List.length h; omega)⟩, hw⟩
          | exact ⟨0, rfl, ⟨fun _ => HE.out (by omega), fun _ => rfl⟩, hw⟩
    · have hkx : k = x.length := by omega
      have HE : Hid (x.length = y.length → x = y) := fun h => by
        have := HT.out
        rwa [hkx, List.take_length, h, List.take_length] at this
      clear hkx
      go_wp2
      all_goals go_ret
      all_goals first
        | exact ⟨-1, rfl, ⟨fun h => by omega, fun h => by (have := congrArg List.length h; omega)⟩, hw⟩
        | exact ⟨1, rfl, ⟨fun h => by omega, fun h => by (have := congrArg List.length h; omega)⟩, hw⟩
        | exact ⟨0, rfl, ⟨fun _ => HE.out (by omega), fun _ => rfl⟩, hw⟩

set_option maxHeartbeats 1000000 in
theorem C_spec_EqualNames (w : World) (cs1 cs2 : List Value) (x y : List (List UInt8)) (h1 : (Ty.sl .str).rd w cs1 x) (h2 : (Ty.sl .str).rd w cs2 y) :
    Calls Try.prog 99 #[.agg cs1.toArray, .agg cs2.toArray] w (RetB w (decide (x = y))) := by
  obtain ⟨s1, rfl⟩ := List.length_eq_one_iff.1 (Ty.rd_len h1)
  obtain ⟨s2, rfl⟩ := List.length_eq_one_iff.1 (Ty.rd_len h2)
  go_enter Try.func99, Try.ntmps99
  go_wp2_with fail
  refine (C_spec_CompareNames _ _ _ _ _ (Ty.rd_below (by repeat' (first | (with_reducible exact Below.refl _ _) | (with_reducible assumption) | (with_reducible refine bel_set ?_ (by (try dsimp only); omega) _) | (with_reducible refine bel_alloc ?_ _) | (with_reducible refine bel_drewN ?_ _) | (with_reducible refine bel_drew ?_))) h1) (Ty.rd_below (by repeat' (first | (with_reducible exact Below.refl _ _) | (with_reducible assumption) | (with_reducible refine bel_set ?_ (by (try dsimp only); omega) _) | (with_reducible refine bel_alloc ?_ _) | (with_reducible refine bel_drewN ?_ _) | (with_reducible refine bel_drew ?_))) h2)).mono ?_
  rintro e w1 ⟨n, rfl, hn, hb1⟩
  have hw1 : Below w.heap.size w w1 := bel_trans (by repeat' (first | (with_reducible exact Below.refl _ _) | (with_reducible assumption) | (with_reducible refine bel_set ?_ (by (try dsimp only); omega) _) | (with_reducible refine bel_alloc ?_ _) | (with_reducible refine bel_drewN ?_ _) | (with_reducible refine bel_drew ?_))) hb1
  have HN := Lib.hid hn
  clear hn
  go_wp2
  go_ret
  exact ⟨ret_bool (by rw [Bool.eq_iff_iff]; simp [HN.out]), hw1⟩

set_option maxHeartbeats 1000000 in
theorem C_slices_Equal_str (w : World) (v1 v2 : Value) (x y : List (List UInt8)) (h1 : (Ty.sl .str).rd w [v1] x) (h2 : (Ty.sl .str).rd w [v2] y) :
    Calls Try.prog 143 #[v1, v2] w (RetB w (decide (x = y))) := by
  obtain ⟨A1, c1, rfl, hc1, hm1, hn1⟩ := Ty.rd_sl h1
  obtain ⟨A2, c2, rfl, hc2, hm2, hn2⟩ := Ty.rd_sl h2
  by_cases hl : x.length = y.length
  · have q1 : ((x.length : Int) != y.length) = false := by simp [hl]
    have HL := Lib.hid hl
    clear hl
    go_enter Try.func143, Try.ntmps143
    go_wp2
    go_loopw [13] (fun i wr => ∃ k : Nat, k ≤ x.length ∧ i = .int .i64 k ∧ x.take k = y.take k ∧ Below w.heap.size w wr) (fun i _ => x.length - (intOf i).toNat)
    case atStart => exact ⟨0, by omega, rfl, rfl, Below.refl _ _⟩
    case round =>
      obtain ⟨k, hk, rfl, htk, hb⟩ := hrel
      have HT := Lib.hid htk
      clear htk
      by_cases hlt : k < x.length
      · have hlt2 : k < y.length := by have := HL.out; omega
        obtain ⟨b1, o1, rfl, e1, _⟩ := Ty.rd_str_at (Ty.rd_below hb h1) hlt
        obtain ⟨b2, o2, rfl, e2, _⟩ := Ty.rd_str_at (Ty.rd_below hb h2) hlt2
        by_cases he : x[k] = y[k]
        · have q2 : (!x[k] == y[k]) = false := by simp [he]
          have HE := Lib.hid he
          clear he
          go_wp2
          go_quiet (fail)
          go_wp2
          go_roundw
          case rel => exact ⟨k + 1, by omega, by go_num, by rw [List.take_succ_eq_append_getElem hlt, List.take_succ_eq_append_getElem hlt2, HT.out, HE.out], bel_drewN hb _⟩
          case measure => simp [intOf]; omega
        · have q2 : (!x[k] == y[k]) = true := by simp [he]
          have HE : Hid (¬ x = y) := fun h => he (by subst h; rfl)
          clear he
          go_wp2
          go_quiet (fail)
          go_wp2
          go_ret
          exact ⟨ret_bool (by simp [HE.out]), bel_drewN hb _⟩
      · have HE : Hid (x = y) := by
          have h1 := HT.out
          rwa [List.take_of_length_le (by omega), List.take_of_length_le (by have := HL.out; omega)] at h1
        go_wp2
        go_ret
        exact ⟨ret_bool (by simp [HE.out]), hb⟩
  · have q1 : ((x.length : Int) != y.length) = true := by rw [bne_iff_ne]; omega
    have HE : Hid (¬ x = y) := fun h => hl (congrArg List.length h)
    go_enter Try.func143, Try.ntmps143
    go_wp2
    go_ret
    exact ⟨ret_bool (by simp [HE.out]), Below.refl _ _⟩
end Go.Proofs.Ytldgbnlcnlfmeaa
