/- Texts of this claim, merged by a program: Nam Val Ret Int Asn Pnm Nmd Nmn Dow. -/
import Derived.Test.YtidnahocnhcoiaaGreatDoorQrP
import Derived.Test.YtidnahocnhcoiaaGreatDoorQr1
import Derived.StillTailTactics
import Derived.WalkLawsBesides
import Derived.Deep.RegionHeld3
import Derived.Shelf.Abstract
import Derived.Test.YtidnahocnhcoiaaGreatDoorQr0
namespace Go.Proofs.YtidnahocnhcoiaaGreatDoor
open Go.RowKit
set_option linter.unusedVariables false
set_option linter.unusedSimpArgs false
theorem bytesLess_irrefl : ∀ l : List UInt8, Op.bytesLess l l = false
 | [] => rfl
 | a :: l => by simp [Op.bytesLess, bytesLess_irrefl l]
set_option maxHeartbeats 400000 in
theorem C_spec_l4Cmp (w : World) (a b : List UInt8) :
  Calls Tryz.prog 96 #[vS a, vS b] w fun e w' => ∃ n : Int, e = .returned (.int .i64 n) ∧ (n = 0 ↔ a = b) ∧ Below w.heap.size w w' := by
 go_enter Tryz.func96, Tryz.ntmps96
 go_wp2
 all_goals go_ret
 ·rename_i h
  exact ⟨-1, rfl, by (refine ⟨fun h0 => by omega, fun h0 => ?_⟩); subst h0; simp [bytesLess_irrefl] at h, Below.refl _ _⟩
 ·rename_i h
  exact ⟨1, rfl, by (refine ⟨fun h0 => by omega, fun h0 => ?_⟩); subst h0; simp at h, Below.refl _ _⟩
 ·rename_i h
  exact ⟨0, rfl, by simpa using h, Below.refl _ _⟩
set_option maxHeartbeats 1000000 in
theorem C_spec_CompareNames (w : World) (cs1 cs2 : List Value) (x y : List (List UInt8)) (h1 : (Ty.sl .str).rd w cs1 x) (h2 : (Ty.sl .str).rd w cs2 y) :
  Calls Tryz.prog 84 #[.agg cs1.toArray, .agg cs2.toArray] w fun e w' => ∃ n : Int, e = .returned (.int .i64 n) ∧ (n = 0 ↔ x = y) ∧ Below w.heap.size w w' := by
 obtain ⟨s1, rfl⟩ := List.length_eq_one_iff.1 (Ty.rd_len h1)
 obtain ⟨s2, rfl⟩ := List.length_eq_one_iff.1 (Ty.rd_len h2)
 obtain ⟨A1, c1, rfl, hc1, hm1, hn1⟩ := Ty.rd_sl h1
 obtain ⟨A2, c2, rfl, hc2, hm2, hn2⟩ := Ty.rd_sl h2
 go_enter Tryz.func84, Tryz.ntmps84
 go_wp2
 go_loopw [5] (fun i wr => ∃ k : Nat, k ≤ x.length ∧ k ≤ y.length ∧ i = .int .i64 k ∧ x.take k = y.take k ∧ Below ((w.alloc (.cells #[.slice A1 x.length c1] 29)).alloc (.cells #[.slice A2 y.length c2] 29)).heap.size ((w.alloc (.cells #[.slice A1 x.length c1] 29)).alloc (.cells #[.slice A2 y.length c2] 29)) wr) (fun i _ => x.length - (intOf i).toNat)
 case atStart => exact ⟨0, by omega, by omega, rfl, rfl, Below.refl _ _⟩
 case round =>
  obtain ⟨k, hk1, hk2, rfl, htk, hb⟩ := hrel
  have hw : Below w.heap.size w wr := bel_trans b_2 hb
  obtain ⟨hc, hf⟩ := bcell hb
  have HT := Lib.hid htk
  clear htk
  by_cases hl1 : k < x.length
  ·by_cases hl2 : k < y.length
   ·obtain ⟨b1, o1, rfl, e1, _⟩ := Ty.rd_str_at (Ty.rd_below hw h1) hl1
    obtain ⟨b2, o2, rfl, e2, _⟩ := Ty.rd_str_at (Ty.rd_below hw h2) hl2
    go_wp2_with fail
    set_option maxRecDepth 100000 in go_still_tail 10, b_20
    go_wp2_with fail
    refine (C_spec_l4Cmp _ _ _).mono ?_
    rintro e w1 ⟨n, rfl, hn, hb1⟩
    have hb2 : Below ((w.alloc (.cells #[.slice (some ⟨b1, o1, none⟩) x.length c1] 29)).alloc (.cells #[.slice (some ⟨b2, o2, none⟩) y.length c2] 29)).heap.size ((w.alloc (.cells #[.slice (some ⟨b1, o1, none⟩) x.length c1] 29)).alloc (.cells #[.slice (some ⟨b2, o2, none⟩) y.length c2] 29)) w1 := bel_trans (bel_drew hb) hb1
    have hw1 : Below w.heap.size w w1 := bel_trans b_2 hb2
    have HN := Lib.hid hn
    clear hn
    by_cases hn0 : n = 0
    ·have q1 : (n != 0) = false := by simp [hn0]
     have HZ := Lib.hid (HN.out.1 hn0)
     clear hn0
     go_wp2
     go_roundw
     case rel => exact ⟨k + 1, by omega, by omega, by go_num, by rw [List.take_succ_eq_append_getElem hl1, List.take_succ_eq_append_getElem hl2, HT.out, HZ.out], hb2⟩
     case measure => simp [intOf]; omega
    ·have q1 : (n != 0) = true := by simp [hn0]
     have HZ : Hid (¬ x = y) := fun h => hn0 (HN.out.2 (by subst h; rfl))
     clear hn0
     go_wp2
     go_ret
     exact ⟨n, rfl, ⟨fun h => absurd h (by simpa using q1), fun h => absurd h HZ.out⟩, hw1⟩
   ·have hky : k = y.length := by omega
    have HE : Hid (x.length = y.length → x = y) := fun h => by
     have := HT.out
     rwa [hky, List.take_length, ← h, List.take_length] at this
    clear hky
    go_wp2
    all_goals go_ret
    all_goals first
     | exact ⟨-1, rfl, ⟨fun h => by omega, fun h => by (have := congrArg List.length h; omega)⟩, hw⟩
     | exact ⟨1, rfl, ⟨fun h => by omega, fun h => by (have := congrArg List.length h; omega)⟩, hw⟩
     | exact ⟨0, rfl, ⟨fun _ => HE.out b_22, fun _ => rfl⟩, hw⟩
  ·have hkx : k = x.length := by omega
   have HE : Hid (x.length = y.length → x = y) := fun h => by
    have := HT.out
    rwa [hkx, List.take_length, h, List.take_length] at this
   clear hkx
   go_wp2
   all_goals go_ret
   all_goals first
    | exact ⟨-1, rfl, ⟨fun h => by omega, fun h => by (have := congrArg List.length h; omega)⟩, hw⟩
    | exact ⟨1, rfl, ⟨fun h => by omega, fun h => by (have := congrArg List.length h; omega)⟩, hw⟩
    | exact ⟨0, rfl, ⟨fun _ => HE.out b_22, fun _ => rfl⟩, hw⟩
set_option maxHeartbeats 1000000 in
theorem C_spec_EqualNames (w : World) (cs1 cs2 : List Value) (x y : List (List UInt8)) (h1 : (Ty.sl .str).rd w cs1 x) (h2 : (Ty.sl .str).rd w cs2 y) :
  Calls Tryz.prog 69 #[.agg cs1.toArray, .agg cs2.toArray] w (RetB w (decide (x = y))) := by
 obtain ⟨s1, rfl⟩ := List.length_eq_one_iff.1 (Ty.rd_len h1)
 obtain ⟨s2, rfl⟩ := List.length_eq_one_iff.1 (Ty.rd_len h2)
 go_enter Tryz.func69, Tryz.ntmps69
 go_wp2_with fail
 refine (C_spec_CompareNames _ _ _ _ _ (Ty.rd_below b_2 h1) (Ty.rd_below b_2 h2)).mono ?_
 rintro e w1 ⟨n, rfl, hn, hb1⟩
 have hw1 : Below w.heap.size w w1 := bel_trans b_2 hb1
 have HN := Lib.hid hn
 clear hn
 go_wp2
 go_ret
 exact ⟨ret_bool (by rw [Bool.eq_iff_iff]; simp [HN.out]), hw1⟩
set_option maxHeartbeats 1000000 in
theorem C_slices_Equal_str (w : World) (v1 v2 : Value) (x y : List (List UInt8)) (h1 : (Ty.sl .str).rd w [v1] x) (h2 : (Ty.sl .str).rd w [v2] y) :
  Calls Tryz.prog 43 #[v1, v2] w (RetB w (decide (x = y))) := by
 obtain ⟨A1, c1, rfl, hc1, hm1, hn1⟩ := Ty.rd_sl h1
 obtain ⟨A2, c2, rfl, hc2, hm2, hn2⟩ := Ty.rd_sl h2
 by_cases hl : x.length = y.length
 ·have q1 : ((x.length : Int) != y.length) = false := by simp [hl]
  have HL := Lib.hid hl
  clear hl
  go_enter Tryz.func43, Tryz.ntmps43
  go_wp2
  go_loopw [13] (fun i wr => ∃ k : Nat, k ≤ x.length ∧ i = .int .i64 k ∧ x.take k = y.take k ∧ Below w.heap.size w wr) (fun i _ => x.length - (intOf i).toNat)
  case atStart => exact ⟨0, by omega, rfl, rfl, Below.refl _ _⟩
  case round =>
   obtain ⟨k, hk, rfl, htk, hb⟩ := hrel
   have HT := Lib.hid htk
   clear htk
   by_cases hlt : k < x.length
   ·have hlt2 : k < y.length := by have := HL.out; omega
    obtain ⟨b1, o1, rfl, e1, _⟩ := Ty.rd_str_at (Ty.rd_below hb h1) hlt
    obtain ⟨b2, o2, rfl, e2, _⟩ := Ty.rd_str_at (Ty.rd_below hb h2) hlt2
    by_cases he : x[k] = y[k]
    ·have q2 : (!x[k] == y[k]) = false := by simp [he]
     have HE := Lib.hid he
     clear he
     go_wp2
     go_quiet (fail)
     go_wp2
     go_roundw
     case rel => exact ⟨k + 1, by omega, by go_num, by rw [List.take_succ_eq_append_getElem hlt, List.take_succ_eq_append_getElem hlt2, HT.out, HE.out], bel_drewN hb _⟩
     case measure => simp [intOf]; omega
    ·have q2 : (!x[k] == y[k]) = true := by simp [he]
     have HE : Hid (¬ x = y) := fun h => he (by subst h; rfl)
     clear he
     go_wp2
     go_quiet (fail)
     go_wp2
     go_ret
     exact ⟨ret_bool (by simp [HE.out]), bel_drewN hb _⟩
   ·have HE : Hid (x = y) := by
     have h1 := HT.out
     rwa [List.take_of_length_le b_22, List.take_of_length_le (by have := HL.out; omega)] at h1
    go_wp2
    go_ret
    exact ⟨ret_bool (by simp [HE.out]), hb⟩
 ·have q1 : ((x.length : Int) != y.length) = true := by rw [bne_iff_ne]; omega
  have HE : Hid (¬ x = y) := fun h => hl (congrArg List.length h)
  go_enter Tryz.func43, Tryz.ntmps43
  go_wp2
  go_ret
  exact ⟨ret_bool (by simp [HE.out]), Below.refl _ _⟩
def RetBP (w : World) (b : Bool) (e : Ending) (w' : World) : Prop := e = .returned (.bool b) ∧ w' = w
def RetIP (w : World) (b : Int) (e : Ending) (w' : World) : Prop := e = .returned (.int .i64 b) ∧ w' = w
def inR (x a b : Int) : Bool := decide (a ≤ x) && decide (x ≤ b)
set_option maxHeartbeats 400000 in
theorem C_spec_l1In (w : World) (x a b : Int) : Calls Tryz.prog 73 #[.int .i64 x, .int .i64 a, .int .i64 b] w (RetBP w (inR x a b)) := by
 go_enter Tryz.func73, Tryz.ntmps73
 go_wp2
 all_goals go_ret
 all_goals exact ⟨ret_bool (by unfold inR; (rw [Bool.eq_iff_iff]; simp; try omega)), rfl⟩
set_option maxHeartbeats 400000 in
theorem C_impl_InRange (w : World) (x a b : Int) : Calls Tryz.prog 85 #[.int .i64 x, .int .i64 a, .int .i64 b] w (RetBP w (inR x a b)) := by
 go_enter Tryz.func85, Tryz.ntmps85
 go_wp2
 all_goals go_ret
 all_goals exact ⟨ret_bool (by unfold inR; (rw [Bool.eq_iff_iff]; simp; try omega)), rfl⟩
theorem okByte_iff (s : List UInt8) (k : Nat) (h : k < s.length) (c : Int) (hc : c = (s[k].toNat : Int)) : okByte s[k] = true ↔ (97 ≤ c ∧ c ≤ 122) ∨ (48 ≤ c ∧ c ≤ 57) ∨ c = 45 := by
 subst hc; unfold okByte; simp; omega
theorem okByte_no (s : List UInt8) (k : Nat) (h : k < s.length) (c : Int) (hc : c = (s[k].toNat : Int)) (hn : ¬ ((97 ≤ c ∧ c ≤ 122) ∨ (48 ≤ c ∧ c ≤ 57) ∨ c = 45)) : okByte s[k] = false := by
 cases hq : okByte s[k]
 ·rfl
 ·exact absurd ((okByte_iff s k h c hc).1 hq) hn
theorem bytes_at (s : List UInt8) (k : Nat) (h : k < s.length) (h2 : k < ({ data := s.toArray } : ByteArray).size) : ((({ data := s.toArray } : ByteArray)[k].toNat : Nat) : Int) = (s[k].toNat : Int) := rfl
set_option maxHeartbeats 1000000 in
theorem C_impl_ValidPart (w : World) (s : List UInt8) (hs : s.length ≤ 9223372036854775807) : Calls Tryz.prog 70 #[vS s] w (RetBP w (validPart s)) := by
  go_enter Tryz.func70, Tryz.ntmps70
  go_wp2
  go_loopw [7] (fun i wr => ∃ k : Nat, k ≤ s.length ∧ i = .int .i64 k ∧ (s.take k).all okByte = true ∧ wr = w) (fun i _ => s.length - (intOf i).toNat)
  case atStart => exact ⟨0, by omega, by first | rfl | simp, rfl, rfl⟩
  case round =>
    obtain ⟨k, hk, rfl, ht, rfl⟩ := hrel
    have HT := Lib.hid ht
    clear ht
    by_cases hlt : k < s.length
    · have hs1 := all_take_succ okByte s hlt
      have HS := Lib.hid hs1
      clear hs1
      go_wp2
      all_goals (try simp only [Bool.not_eq_false', decide_eq_true_eq, beq_iff_eq, Bool.not_eq_true', decide_eq_false_iff_not, beq_eq_false_iff_ne, ne_eq] at *)
      all_goals first
        | (go_ret
           exact ⟨ret_bool (by unfold validPart; rw [all_false_of okByte s hlt (okByte_no s k hlt _ (bytes_at s k hlt hlt) b_22)]; rfl), rfl⟩)
        | exact ⟨⟨k + 1, by omega, by go_num, by rw [HS.out, HT.out, (okByte_iff s k hlt _ (bytes_at s k hlt hlt)).2 b_22]; rfl, by first | rfl | trivial⟩, by simp [intOf]; omega⟩
    · have HE : Hid (s.all okByte = true) := by have := HT.out; rwa [List.take_of_length_le b_22] at this
      go_wp2_with fail
      refine (C_impl_InRange _ _ _ _).mono ?_
      rintro e w1 ⟨rfl, rfl⟩
      go_wp2
      go_ret
      exact ⟨ret_bool (by unfold validPart inR; rw [HE.out]; (rw [Bool.eq_iff_iff]; simp; try omega)), rfl⟩
set_option maxHeartbeats 400000 in
theorem C_impl_ValidName1 (w : World) (s : List UInt8) (hs : s.length ≤ 9223372036854775807) : Calls Tryz.prog 82 #[vS s] w (RetBP w (!validPart s)) := by
 go_enter Tryz.func82, Tryz.ntmps82
 go_wp2_with fail
 refine (C_impl_ValidPart _ _ hs).mono ?_
 rintro e w1 ⟨rfl, rfl⟩
 go_wp2
 go_ret
 exact ⟨rfl, rfl⟩
set_option maxHeartbeats 1000000 in
theorem C_spec_ValidPart (w : World) (s : List UInt8) (hs : s.length ≤ 9223372036854775807) : Calls Tryz.prog 72 #[vS s] w (RetBP w (validPart s)) := by
 go_enter Tryz.func72, Tryz.ntmps72
 go_wp2_with fail
 refine (C_spec_l1In _ _ _ _).mono ?_
 rintro e w1 ⟨rfl, rfl⟩
 cases hq : inR s.length 1 8
 ·go_wp2
  go_ret
  exact ⟨ret_bool (by unfold validPart; unfold inR at hq; rw [show (decide (1 ≤ s.length) && decide (s.length ≤ 8)) = false from by (rw [Bool.eq_iff_iff] at hq ⊢; simp at hq ⊢; omega)]; simp), rfl⟩
 have HL := Lib.hid hq
 go_wp2
 go_loopw [3] (fun i wr => ∃ k : Nat, k ≤ s.length ∧ i = .int .i64 k ∧ (s.take k).all okByte = true ∧ wr = w1) (fun i _ => s.length - (intOf i).toNat)
 case atStart => exact ⟨0, by omega, by first | rfl | simp, rfl, rfl⟩
 case round =>
  obtain ⟨k, hk, rfl, ht, rfl⟩ := hrel
  have HT := Lib.hid ht
  clear ht
  by_cases hlt : k < s.length
  ·have hs1 := all_take_succ okByte s hlt
   have HS := Lib.hid hs1
   clear hs1
   have HR : Hid (∀ c : Int, c = (s[k].toNat : Int) → okByte s[k] = (inR c 97 122 || inR c 48 57 || decide (c = 45))) := fun c hc => by
    subst hc; unfold okByte inR; (rw [Bool.eq_iff_iff]; simp; omega)
   go_wp2_with fail
   have hr := HR.out _ (bytes_at s k hlt hlt)
   have hcb : 0 ≤ (s[k].toNat : Int) ∧ (s[k].toNat : Int) ≤ 255 := by have := UInt8.toNat_lt s[k]; omega
   rw [← bytes_at s k hlt hlt] at hcb
   generalize ((({ data := s.toArray } : ByteArray)[k]'hlt).toNat : Int) = c at hr hcb ⊢
   have hwc : wrap64 c = c := by unfold wrap64; omega
   try rw [hwc]
   refine (C_spec_l1In _ c _ _).mono ?_
   rintro e w2 ⟨rfl, rfl⟩
   cases h1 : inR c 97 122
   ·go_wp2_with fail
    try rw [hwc]
    refine (C_spec_l1In _ c _ _).mono ?_
    rintro e w3 ⟨rfl, rfl⟩
    cases h2 : inR c 48 57
    ·by_cases h3 : c = 45
     ·have q3 : (c != 45) = false := by simp [h3]
      have HC := Lib.hid (show okByte s[k] = true from by rw [hr, h1, h2]; simp [h3])
      clear h3 hr
      go_wp2
      go_roundw
      case rel => exact ⟨k + 1, by omega, by go_num, by rw [HS.out, HT.out, HC.out]; rfl, by first | rfl | trivial⟩
      case measure => simp [intOf]; omega
     ·have q3 : (c != 45) = true := by simp [h3]
      have HC := Lib.hid (show okByte s[k] = false from by rw [hr, h1, h2]; simp [h3])
      clear h3 hr
      go_wp2
      go_ret
      exact ⟨ret_bool (by unfold validPart; rw [all_false_of okByte s hlt HC.out]; rfl), rfl⟩
    ·have HC := Lib.hid (show okByte s[k] = true from by rw [hr, h1, h2]; simp)
     clear hr
     go_wp2
     go_roundw
     case rel => exact ⟨k + 1, by omega, by go_num, by rw [HS.out, HT.out, HC.out]; rfl, by first | rfl | trivial⟩
     case measure => simp [intOf]; omega
   ·have HC := Lib.hid (show okByte s[k] = true from by rw [hr, h1]; simp)
    clear hr
    go_wp2
    go_roundw
    case rel => exact ⟨k + 1, by omega, by go_num, by rw [HS.out, HT.out, HC.out]; rfl, by first | rfl | trivial⟩
    case measure => simp [intOf]; omega
  ·have HE : Hid (s.all okByte = true) := by have := HT.out; rwa [List.take_of_length_le b_22] at this
   go_wp2
   go_ret
   exact ⟨ret_bool (by unfold validPart; rw [HE.out]; have := HL.out; unfold inR at this; simp at this ⊢; omega), rfl⟩
set_option maxHeartbeats 1000000 in
theorem C_spec_ValidName (w : World) (cs : List Value) (x : List (List UInt8)) (h : (Ty.sl .str).rd w cs x) :
  Calls Tryz.prog 65 #[.agg cs.toArray] w (RetB w (validName x)) := by
 obtain ⟨A, c, rfl⟩ := Ty.rd_slv h
 obtain ⟨_, _, _, hcc, hmm, hn⟩ := Ty.rd_sl h
 go_enter Tryz.func65, Tryz.ntmps65
 go_wp2
 go_loopw [3] (fun i wr => ∃ k : Nat, k ≤ x.length ∧ i = .int .i64 k ∧ (x.take k).all validPart = true ∧ Below (w.alloc (.cells #[.slice A x.length c] 29)).heap.size (w.alloc (.cells #[.slice A x.length c] 29)) wr) (fun i _ => x.length - (intOf i).toNat)
 case atStart => exact ⟨0, by omega, rfl, by first | rfl | simp, Below.refl _ _⟩
 case round =>
  obtain ⟨k, hk, rfl, ht, hb⟩ := hrel
  have hw : Below w.heap.size w wr := bel_trans b_2 hb
  obtain ⟨hc, hf⟩ := bcell hb
  have HT := Lib.hid ht
  clear ht
  by_cases hlt : k < x.length
  ·have HS := Lib.hid (all_take_succ validPart x hlt)
   obtain ⟨b, o, rfl, e0, n0⟩ := Ty.rd_str_at (Ty.rd_below hw h) hlt
   go_wp2_with fail
   refine (C_spec_ValidPart _ _ n0).mono ?_
   rintro e w2 ⟨rfl, rfl⟩
   cases hq : validPart x[k]
   ·go_wp2
    go_ret
    exact ⟨ret_bool (by unfold validName; rw [all_false_of validPart x hlt hq]; rfl), hw⟩
   ·have HQ := Lib.hid hq
    go_wp2
    go_roundw
    case rel => exact ⟨k + 1, by omega, by go_num, by rw [HS.out, HT.out, HQ.out]; rfl, hb⟩
    case measure => simp [intOf]; omega
  ·have HE : Hid (x.all validPart = true) := by have := HT.out; rwa [List.take_of_length_le b_22] at this
   go_wp2
   go_ret
   exact ⟨ret_bool (by unfold validName; rw [HE.out]; (rw [Bool.eq_iff_iff]; simp; try omega)), hw⟩
def ixf {α : Type} (p : α → Bool) (x : List α) : Int := match x.findIdx? p with | some k => (k : Int) | none => -1
theorem ixf_hit {α : Type} (p : α → Bool) (x : List α) {k : Nat} (h : k < x.length) (ht : (x.take k).any p = false) (hp : p x[k] = true) : ixf p x = k := by
 unfold ixf
 rw [List.findIdx?_eq_some_iff_getElem.2 ⟨h, hp, fun j hj => by
  have := List.any_eq_false.1 ht ((x.take k)[j]'(by rw [List.length_take]; omega)) (List.getElem_mem _)
  rw [List.getElem_take] at this; exact this⟩]
theorem ixf_miss {α : Type} (p : α → Bool) (x : List α) (ht : x.any p = false) : ixf p x = -1 := by
 unfold ixf
 rw [List.findIdx?_eq_none_iff.2 (fun a ha => by simpa using List.any_eq_false.1 ht a ha)]
theorem ixf_ge {α : Type} (p : α → Bool) (x : List α) : decide (ixf p x ≥ 0) = x.any p := by
 unfold ixf
 cases hq : x.findIdx? p with
 | none => rw [List.findIdx?_eq_none_iff] at hq; symm; simp; exact hq
 | some k => rw [List.findIdx?_eq_some_iff_getElem] at hq; obtain ⟨h, hp, _⟩ := hq; symm; simp; exact ⟨x[k], List.getElem_mem h, hp⟩
set_option maxHeartbeats 1000000 in
theorem C_IndexFunc_str (w : World) (v : Value) (x : List (List UInt8)) (p : List UInt8 → Bool) (g : Nat) (lb : Array Value) (eg : ∀ args w, (callFunc g args).run Tryz.prog w = .ok (.enter g args) w)
  (h : (Ty.sl .str).rd w [v] x) (hp : ∀ (W : World) (s : List UInt8), s.length ≤ 9223372036854775807 → Below w.heap.size w W → Calls Tryz.prog g (#[vS s] ++ lb) W (RetB W (p s))) :
  Calls Tryz.prog 92 #[v, .func (.func g) #[] lb] w (RetI w (ixf p x)) := by
 obtain ⟨A, c, rfl, hc, hm, hn⟩ := Ty.rd_sl h
 have HP := Lib.hid hp
 clear hp
 go_enter Tryz.func92, Tryz.ntmps92
 go_wp2
 go_loopw [8] (fun i wr => ∃ k : Nat, k ≤ x.length ∧ i = .int .i64 k ∧ (x.take k).any p = false ∧ Below w.heap.size w wr) (fun i _ => x.length - (intOf i).toNat)
 case atStart => exact ⟨0, by omega, by first | rfl | simp, by first | rfl | simp, Below.refl _ _⟩
 case round =>
  obtain ⟨k, hk, rfl, ht, hb⟩ := hrel
  have HT := Lib.hid ht
  clear ht
  by_cases hlt : k < x.length
  ·have HS := Lib.hid (any_take_succ p x hlt)
   obtain ⟨b, o, rfl, e0, n0⟩ := Ty.rd_str_at (Ty.rd_below hb h) hlt
   have hcall := HP.out wr x[k] n0 hb
   cases hq : p x[k]
   ·have HQ := Lib.hid hq
    rw [hq] at hcall
    go_wp2_with (go_at_fn g; refine hcall.mono ?_; rintro e w' ⟨rfl, hb'⟩)
    go_roundw
    case rel => exact ⟨k + 1, by omega, by go_num, by rw [HS.out, HT.out, HQ.out]; rfl, bel_trans hb hb'⟩
    case measure => simp [intOf]; omega
   ·have HQ := Lib.hid hq
    rw [hq] at hcall
    go_wp2_with (go_at_fn g; refine hcall.mono ?_; rintro e w' ⟨rfl, hb'⟩)
    go_ret
    exact ⟨ret_int (ixf_hit p x hlt HT.out HQ.out).symm, bel_trans hb hb'⟩
  ·have HE : Hid (x.any p = false) := by have := HT.out; rwa [List.take_of_length_le b_22] at this
   go_wp2
   go_ret
   exact ⟨ret_int (ixf_miss p x HE.out).symm, hb⟩
set_option maxHeartbeats 1000000 in
theorem C_ContainsFunc_str (w : World) (v : Value) (x : List (List UInt8)) (p : List UInt8 → Bool) (g : Nat) (lb : Array Value) (eg : ∀ args w, (callFunc g args).run Tryz.prog w = .ok (.enter g args) w)
  (h : (Ty.sl .str).rd w [v] x) (hp : ∀ (W : World) (s : List UInt8), s.length ≤ 9223372036854775807 → Below w.heap.size w W → Calls Tryz.prog g (#[vS s] ++ lb) W (RetB W (p s))) :
  Calls Tryz.prog 81 #[v, .func (.func g) #[] lb] w (RetB w (x.any p)) := by
 have hcall := C_IndexFunc_str w v x p g lb eg h hp
 go_enter Tryz.func81, Tryz.ntmps81
 go_wp2_with fail
 refine hcall.mono ?_
 rintro e w1 ⟨rfl, hb⟩
 go_wp2
 go_ret
 exact ⟨ret_bool (ixf_ge p x), hb⟩
set_option maxHeartbeats 1000000 in
theorem C_impl_ValidName (w : World) (cs : List Value) (x : List (List UInt8)) (h : (Ty.sl .str).rd w cs x) :
  Calls Tryz.prog 62 #[.agg cs.toArray] w (RetB w (validName x)) := by
 obtain ⟨A, c, rfl⟩ := Ty.rd_slv h
 by_cases hl : x.length ≤ 6
 ·have HL := Lib.hid hl
  go_enter Tryz.func62, Tryz.ntmps62
  go_wp2_with fail
  refine (C_ContainsFunc_str _ _ x (fun s => !validPart s) 82 #[] (enters_of Tryz.func82 b_20 rfl) (Ty.rd_below b_2 h) (fun W s hs _ => by rw [Array.append_empty]; refine (C_impl_ValidName1 W s hs).mono ?_; rintro e w' ⟨rfl, rfl⟩; exact ⟨rfl, Below.refl _ _⟩)).mono ?_
  rintro e w1 ⟨rfl, hb⟩
  have hw1 : Below w.heap.size w w1 := bel_trans b_2 hb
  go_wp2
  go_ret
  exact ⟨ret_bool (by unfold validName; have := HL.out; (rw [Bool.eq_iff_iff]; simp; try omega)), hw1⟩
 ·have HL := Lib.hid hl
  go_enter Tryz.func62, Tryz.ntmps62
  go_wp2
  go_ret
  exact ⟨ret_bool (by unfold validName; have := HL.out; (rw [Bool.eq_iff_iff]; simp; try omega)), b_2⟩
def RetAgg2 (w : World) (t : Ty) (x : t.D) (u : Value) (e : Ending) (w' : World) : Prop :=
 ∃ cs fp, e = .returned (.tuple #[.agg cs.toArray, u]) ∧ t.ow w' cs x fp ∧ Fr w w' fp ∧ Below w.heap.size w w'
theorem rd_ow_nil (w : World) (e : Ty) : (Ty.sl e).ow w [.slice none 0 0] [] [] := ⟨none, 0, rfl, Nat.le_refl _, ⟨Nat.zero_le _, fun _ => rfl⟩, by simp, .inl ⟨rfl, rfl⟩⟩
def RetStr (w : World) (s : List UInt8) (e : Ending) (w' : World) : Prop := e = .returned (vS s) ∧ Below w.heap.size w w'
def pre (n : Int) (y : List UInt8) : List Int := n :: y.map fun c => (c.toNat : Int)
theorem Ty.ow_tail {w : World} {e : Ty} {b o n c : Nat} {x : List e.D} {fp : List Nat} {lo hi : Nat} (h : (Ty.sl e).ow w [.slice (some ⟨b, o, none⟩) n c] x fp) (h1 : 1 < x.length) (hf : FrI lo hi fp) :
  ∃ fp', (Ty.sl e).ow w [.slice (some ⟨b, o + e.sz, none⟩) (n - 1) (c - 1)] (x.drop 1) fp' ∧ FrI lo hi fp' := by
 obtain ⟨A, c', h2, h3, h4, h5, h6⟩ := h
 injection h2 with h2 _
 injection h2 with h2 hn2 h7
 subst h7
 have h3' : x.length ≤ c := h3
 have h5' : x.length ≤ 9223372036854775807 := h5
 rcases h6 with h6 | ⟨_, b', o', fs, hA, hfp, hc⟩
 ·exact absurd h6.1 (by show ¬ x.length = 0; omega)
 rw [← h2] at hA
 injection hA with hA
 injection hA with hb ho
 subst hb; subst ho
 have hl : (x.drop 1).length = x.length - 1 := List.length_drop
 have hr : List.range x.length = 0 :: (List.range (x.length - 1)).map Nat.succ := by
  rw [show x.length = (x.length - 1) + 1 from by omega, List.range_succ_eq_map, Nat.add_sub_cancel]
 have hfp2 : fp = b :: (fs 0 ++ (List.range (x.length - 1)).flatMap (fun i => fs (i + 1))) := by
  have hfp' : fp = b :: (List.range x.length).flatMap fs := hfp
  rw [hfp', hr, List.flatMap_cons, List.flatMap_map]
 refine ⟨b :: (List.range (x.drop 1).length).flatMap (fun i => fs (i + 1)), ⟨_, c - 1, ?_, ?_, ⟨by have := h4.1; omega, fun h => by cases h⟩, ?_, .inr ⟨?_, b, o + e.sz, fun i => fs (i + 1), rfl, rfl, fun i hi => ?_⟩⟩, ?_⟩
 ·rw [show n - 1 = List.length (x.drop 1) from by have : n = x.length := hn2; rw [hl]; omega]
 ·show (x.drop 1).length ≤ c - 1; omega
 ·show (x.drop 1).length ≤ _; omega
 ·show 0 < (x.drop 1).length; omega
 ·have hi' : i + 1 < x.length := by have : i < (x.drop 1).length := hi; omega
  obtain ⟨ds, g1, g2, g3⟩ := hc (i + 1) hi'
  refine ⟨ds, g1, fun j hj => ?_, ?_⟩
  ·have := g2 j hj
   rw [show o + e.sz + i * e.sz + j = o + (i + 1) * e.sz + j from by rw [Nat.succ_mul]; omega]
   exact this
  ·have : (x.drop 1)[i]'hi = x[i + 1] := by rw [List.getElem_drop]; congr 1; omega
   rw [this]; exact g3
 ·rw [hfp2] at hf
  rw [hl]
  refine ⟨?_, fun y hy => hf.2 y ?_⟩
  ·have h8 := hf.1
   rw [List.nodup_cons] at h8 ⊢
   exact ⟨fun hm => h8.1 (List.mem_append_right _ hm), (List.nodup_append.1 h8.2).2.1⟩
  ·rcases List.mem_cons.1 hy with rfl | hy
   ·exact List.mem_cons_self
   ·exact List.mem_cons_of_mem _ (List.mem_append_right _ hy)
end Go.Proofs.YtidnahocnhcoiaaGreatDoor
namespace Go.Proofs.YtidnahocnhcoiaaGreatDoor
open Go.RowKit
set_option linter.unusedVariables false
set_option linter.unusedSimpArgs false
set_option maxHeartbeats 2000000 in
theorem C_spec_ParseName (w : World) (s : List UInt8) (hs : s.length ≤ 1000000000) :
  Calls Tryz.prog 75 #[vS s] w (RetAgg2 w (.sl .str) (pnS s).1 (.bool (pnS s).2)) := by
 by_cases h1 : s = [47]
 ·have HY := Lib.hid (pnS_one h1)
  have q1 : (s == [47]) = true := by simp [h1]
  generalize pnS s = F at HY ⊢
  clear h1
  go_enter Tryz.func75, Tryz.ntmps75
  go_wp2
  refine bodyPost_ret (v := .tuple #[.agg #[.slice none 0 0], .bool true]) (by simp [results, Tryz.results75, go_sem]) rfl ?_
  rw [HY.out]
  exact ⟨[.slice none 0 0], [], rfl, rd_ow_nil _ _, FrI.nil _ _, b_2⟩
 have HNO := Lib.hid (fun h => pnS_no h1 h)
 have HYES := Lib.hid (fun h => pnS_yes h1 h)
 have q1 : (s == [47]) = false := by simp [h1]
 have hL := spl_pos 47 s
 have hcall : Calls Tryz.prog 34 #[vS s, .int .u8 47] (w.alloc (.cells #[.slice none 0 0] 29)) (RetRow flatS (w.alloc (.cells #[.slice none 0 0] 29)) 9 (spl 47 s)) := C_spec_l4Split _ s 47 hs
 generalize pnS s = F at HNO HYES ⊢
 generalize spl 47 s = L at HNO HYES hL hcall
 go_enter Tryz.func75, Tryz.ntmps75
 go_wp2_with fail
 refine hcall.mono ?_
 rintro e w1 ⟨v1, rfl, hr1, hb1⟩
 obtain ⟨A1, c1, fp1, rfl, how1, hfr1⟩ := hr1.own hb1.size
 have hcl : L.length ≤ c1 := by obtain ⟨A, c, h2, h3, _⟩ := how1; injection h2 with h2 _; injection h2 with _ _ h7; rw [h7]; exact h3
 obtain ⟨b, o, ds, rfl, hl, hcell, hrd⟩ := Ty.rd_at (Ty.ow_rd how1) hL
 obtain ⟨rfl, hsl⟩ := hrd
 have e0 : w1.cell? ⟨b, o, none⟩ = some (vS L[0]) := by simpa [Ty.sz] using hcell 0 b_21
 clear hcell hl hcall hr1 h1
 have hw1 : Below w.heap.size w w1 := bel_trans b_2 hb1
 have hB1 : Blk w1 w.heap.size 29 #[.slice none 0 0] := (Blk.new w _ _).below hb1 b_15
 have k1 : w1.cell? ⟨w.heap.size, 0, none⟩ = some (.slice none 0 0) := hB1.cell 0
 have f1 : w1.frozen? ⟨w.heap.size, 0, none⟩ = false := hB1.frozen 0
 have z1 : w.heap.size < w1.heap.size := hB1.lt
 have hbl : b < w1.heap.size := World.block_lt_of_cell? _ _ e0
 have hs1 := hb1.size
 simp only [World.size_alloc] at hs1 hfr1
 by_cases h2 : 2 ≤ L.length
 ·obtain ⟨fp2, how2, hfr2⟩ := Ty.ow_tail how1 b_22 hfr1
  have ht : L.drop 1 = L.tail := by simp
  rw [ht] at how2
  have hhead : L.head? = some L[0] := by cases L with | nil => simp at hL | cons a l => rfl
  have q2 : ¬ ((L.length : Int) < 2) := by omega
  have q4 : ¬ c1 = 1 := by omega
  have q5 : decide ((L.length : Int) < 2) = false := by simp; omega
  clear ht
  have how2 : (Ty.sl .str).ow w1 [.slice (some ⟨b, o + 1, none⟩) (L.length - 1) (c1 - 1)] L.tail fp2 := how2
  by_cases h3 : L[0] = []
  ·have q3 : L[0].isEmpty = true := by rw [h3]; rfl
   generalize hvv : validName L.tail = vv at HNO HYES
   have HVV := Lib.hid hvv
   have HC : Hid ((decide (2 ≤ L.length) && decide (L.head? = some []) && vv) = vv) := by unfold Hid; rw [hhead, h3]; simp [h2]
   clear h3 hhead hvv
   go_wp2_with fail
   have hv := C_spec_ValidName (w1.alloc (.cells #[.slice (some ⟨b, o + 1, none⟩) (L.length - 1) (c1 - 1)] 29)) _ L.tail (Ty.rd_below b_2 (Ty.ow_rd how2))
   rw [HVV.out] at hv
   refine hv.mono ?_
   rintro e w2 ⟨rfl, hb2⟩
   clear hv
   have hs2 := hb2.size
   simp only [World.size_alloc] at hs2
   have hx2 : Below w1.heap.size w1 w2 := bel_trans (bel_alloc (Below.refl _ _) _) hb2
   have hw2 : Below w.heap.size w w2 := bel_trans hw1 hx2
   have hB2 := hB1.below hx2 z1
   have hP2 : Blk w2 w1.heap.size 29 #[.slice (some ⟨b, o + 1, none⟩) (L.length - 1) (c1 - 1)] := (Blk.new w1 _ _).below hb2 b_15
   have k2 : w2.cell? ⟨w.heap.size, 0, none⟩ = some (.slice none 0 0) := hB2.cell 0
   have f2 : w2.frozen? ⟨w.heap.size, 0, none⟩ = false := hB2.frozen 0
   have j2 : w2.cell? ⟨w1.heap.size, 0, none⟩ = some (.slice (some ⟨b, o + 1, none⟩) (L.length - 1) (c1 - 1)) := hP2.cell 0
   have z2 : w.heap.size < w2.heap.size := by omega
   have y2 : w1.heap.size < w2.heap.size := by omega
   clear k1 f1 e0
   cases vv with
   | false =>
    have HN := Lib.hid (HNO.out HC.out)
    go_wp2
    refine bodyPost_ret (v := .tuple #[.agg #[.slice none 0 0], .bool false]) (by simp [results, Tryz.results75, go_sem, k2, f2, z2]) rfl ?_
    rw [HN.out]
    exact ⟨[.slice none 0 0], [], rfl, rd_ow_nil _ _, FrI.nil _ _, b_2⟩
   | true =>
    have HY := Lib.hid (HYES.out HC.out)
    go_wp2
    refine bodyPost_ret (v := .tuple #[.agg #[.slice (some ⟨b, o + 1, none⟩) (L.length - 1) (c1 - 1)], .bool true]) (by simp [results, Tryz.results75, go_sem, k2, f2, z2]) rfl ?_
    rw [HY.out]
    exact ⟨[.slice (some ⟨b, o + 1, none⟩) (L.length - 1) (c1 - 1)], fp2, rfl, Ty.ow_keep (by intro b hb'; have hb'' := (hfr2).2 b hb'; (try simp only [szz] at hb''); repeat (first | (with_reducible rfl) | (rw [Below.heap_setCell _ _ _ _ (by (try dsimp only); omega)]) | (rw [Below.heap_alloc _ _ _ b_10]) | (rw [hx2.block _ b_16]))) how2, hfr2.mono b_16 b_16, b_2⟩
  ·have q3 : L[0].isEmpty = false := by cases hq : L[0] with | nil => exact absurd hq h3 | cons a l => rfl
   have HN := Lib.hid (HNO.out (by rw [hhead]; simp [h3]))
   clear h3
   go_wp2
   refine bodyPost_ret (v := .tuple #[.agg #[.slice none 0 0], .bool false]) (by simp [results, Tryz.results75, go_sem, k1, f1, z1]) rfl ?_
   rw [HN.out]
   exact ⟨[.slice none 0 0], [], rfl, rd_ow_nil _ _, FrI.nil _ _, b_2⟩
 ·have HN := Lib.hid (HNO.out (by simp; omega))
  have q2 : ((L.length : Int) < 2) := by omega
  go_wp2
  all_goals refine bodyPost_ret (v := .tuple #[.agg #[.slice none 0 0], .bool false]) (by simp [results, Tryz.results75, go_sem, k1, f1, z1]) rfl ?_
  all_goals rw [HN.out]
  all_goals exact ⟨[.slice none 0 0], [], rfl, rd_ow_nil _ _, FrI.nil _ _, b_2⟩
set_option maxHeartbeats 1000000 in
theorem C_spec_l4Of (w : World) (s : List UInt8) (hs : s.length ≤ 1000000000) :
  Calls Tryz.prog 55 #[vS s] w (RetAgg w (.sl .str) (pnS s).1) := by
 go_enter Tryz.func55, Tryz.ntmps55
 go_wp2_with fail
 refine (C_spec_ParseName _ s hs).mono ?_
 rintro e w1 ⟨cs1, fp1, rfl, how1, hfr1, hb1⟩
 obtain ⟨A1, c1, rfl⟩ := Ty.ow_slv how1
 have hw1 : Below w.heap.size w w1 := bel_trans b_2 hb1
 have hB1 : Blk w1 w.heap.size 29 #[.slice none 0 0] := (Blk.new w _ _).below hb1 b_15
 have k1 : w1.cell? ⟨w.heap.size, 0, none⟩ = some (.slice none 0 0) := hB1.cell 0
 have f1 : w1.frozen? ⟨w.heap.size, 0, none⟩ = false := hB1.frozen 0
 have z1 : w.heap.size < w1.heap.size := hB1.lt
 have hs1 := hb1.size
 simp only [World.size_alloc] at hs1 hfr1
 go_wp2
 refine bodyPost_ret (v := .agg #[.slice A1 (List.length (pnS s).1) c1]) (by simp [results, Tryz.results55, go_sem, k1, f1, z1]) rfl ?_
 exact ⟨_, fp1, rfl, Ty.ow_keep (by intro b hb'; have hb'' := (hfr1).2 b hb'; (try simp only [szz] at hb''); repeat (first | (with_reducible rfl) | (rw [Below.heap_setCell _ _ _ _ (by (try dsimp only); omega)]) | (rw [Below.heap_alloc _ _ _ b_10]))) how1, hfr1.mono b_16 b_16, b_2⟩
theorem Row.dr {e : Ty} {F : Flat e} {B : Nat} {w w' : World} {base : Nat} {te : TypeId} {v : Value} {x : List e.D} (h : Row F w base te v x) (hd : Dr B w w') (hB : B < base) : Row F w' base te v x := by
 refine ⟨⟨h.1.1, ?_⟩, h.2⟩
 rcases h.1.2 with hn | ⟨g, cap, cur, rfl, hbg, hgg, rest⟩
 ·exact .inl hn
 ·exact .inr ⟨g, cap, cur, rfl, hbg, (Dr.block hd (Blk.lt (t := te) (cs := cur) hgg) b_22).trans hgg, rest⟩
theorem row_setN {e : Ty} {F : Flat e} {w : World} {base : Nat} {te : TypeId} {v : Value} {x : List e.D} (h : Row F w base te v x) {p : Addr} (hp : p.block < base) (u : Value) : Row F (w.setCell p u) base te v x := by
 refine ⟨⟨h.1.1, ?_⟩, h.2⟩
 rcases h.1.2 with hn | ⟨g, cap, cur, rfl, hbg, hgg, rest⟩
 ·exact .inl hn
 ·exact .inr ⟨g, cap, cur, rfl, hbg, (Below.heap_setCell _ _ _ _ b_22).trans hgg, rest⟩
theorem Row.rdH {e : Ty} {F : Flat e} {B : Nat} {w : World} {base : Nat} {te : TypeId} {v : Value} {x : List e.D} (h : Row F w base te v x) (hb : base ≤ w.heap.size) (hB : B < base) : (Ty.sl e).rd (hide B w) [v] x := by
 obtain ⟨A, c, fp, _, how, hfr⟩ := h.own hb
 exact Ty.ow_rd (ow_hideF how hfr hB)
theorem rd_lits (B : Nat) (w : World) (te : TypeId) (l : List (List UInt8)) (hl : ∀ s ∈ l, s.length ≤ 9223372036854775807) (hn : l.length ≤ 256) (hB : B < w.heap.size) :
  (Ty.sl .str).rd (hide B (w.alloc (.cells (l.map flatS.enc).toArray te))) [.slice (some ⟨w.heap.size, 0, none⟩) l.length l.length] l :=
 Row.rdH (F := flatS) (base := w.heap.size) ⟨World.ownsRow_lit w (l.map flatS.enc).toArray l.length (Nat.le_refl _) (by unfold maxLen; omega) b_23, hl⟩ b_15 hB
theorem rd_drewH {B : Nat} {w : World} {t : Ty} {cs : List Value} {x : t.D} (h : t.rd (hide B w) cs x) : t.rd (hide B w.drew) cs x := Dr.rd (Dr.drew (Dr.refl B w)) h
def RetRA (te : TypeId) (w : World) (x : List (List UInt8)) (e : Ending) (w' : World) : Prop := ∃ v, e = .returned (.agg #[v]) ∧ Row flatS w' w.heap.size te v x ∧ Below w.heap.size w w'
def RetRA2 (te : TypeId) (w : World) (x : List (List UInt8)) (u : Value) (e : Ending) (w' : World) : Prop := ∃ v, e = .returned (.tuple #[.agg #[v], u]) ∧ Row flatS w' w.heap.size te v x ∧ Below w.heap.size w w'
def apS (n : List (List UInt8)) (s : List UInt8) : List (List UInt8) × Bool := if validName (n ++ [s]) then (n ++ [s], true) else (n, false)
set_option maxHeartbeats 1000000 in
theorem C_spec_l4CopyR (w : World) (cs : List Value) (x : List (List UInt8)) (h : (Ty.sl .str).rd w cs x) (hx : x.length ≤ 1000000000000) :
  Calls Tryz.prog 97 #[.agg cs.toArray] w (RetRA 9 w x) := by
 obtain ⟨A0, c0, rfl⟩ := Ty.rd_slv h
 have hl0 : Row flatS (((w.alloc (.cells #[.slice A0 x.length c0] 29)).alloc (.cells #[.slice none 0 0] 29)).alloc (.cells #[] 9)) (w.heap.size + 1 + 1) 9 (.slice (some ⟨w.heap.size + 1 + 1, 0, none⟩) 0 0) [] := by
  have := Row.lit0 flatS ((w.alloc (.cells #[.slice A0 x.length c0] 29)).alloc (.cells #[.slice none 0 0] 29)) 9 (base := w.heap.size + 1 + 1) b_14
  simp only [World.size_alloc] at this
  exact this
 have HL0 := Lib.hid hl0
 clear hl0
 go_enter Tryz.func97, Tryz.ntmps97
 set_option maxRecDepth 100000 in go_wp2_with (at_builtin; go_loud (refine wpList_append_row rfl _ _ 24 rfl flatS (w.heap.size + 1 + 1) 9 info_str rfl Tryz.underlying24 _ _ [] x rfl rfl HL0.out (Ty.rd_below b_2 h) ?_ ?_ ?_ ?_))
 case refine_1 => simp only [List.length_nil]; omega
 case refine_2 => simp only [List.length_nil]; unfold maxLen; omega
 case refine_3 => simp only [World.size_alloc]; omega
 intro v1 w1 hr1 hg1
 have hb1 : Below ((w.alloc (.cells #[.slice A0 x.length c0] 29)).alloc (.cells #[.slice none 0 0] 29)).heap.size ((w.alloc (.cells #[.slice A0 x.length c0] 29)).alloc (.cells #[.slice none 0 0] 29)) w1 := bel_grown (bel_alloc (Below.refl _ _) _) b_14 hg1 (fun g hg => by simp [Value.ownBlock] at hg; simp only [World.size_alloc]; omega)
 have hz1 := hb1.size
 simp only [World.size_alloc] at hz1
 obtain ⟨A1, c1, fp1, rfl, how1, hfr1⟩ := hr1.own b_22
 have hw1 : Below w.heap.size w w1 := bel_trans b_2 hb1
 obtain ⟨hc1, hf1⟩ := bcell hb1
 have z0 : w.heap.size < w1.heap.size := by omega
 have z1 : w.heap.size + 1 < w1.heap.size := by omega
 have HR1 := Lib.hid hr1
 clear hr1
 obtain ⟨A2, c2, hv2⟩ := HR1.out.form
 go_wp2
 refine bodyPost_ret (v := .agg #[.slice A1 (List.length x) c1]) (by simp [results, Tryz.results97, go_sem, hc1, hf1, z0, z1]) rfl ?_
 exact ⟨_, rfl, (row_setN HR1.out b_18 _).mono b_22, b_2⟩
set_option maxHeartbeats 2000000 in
theorem C_spec_AppendPart (w : World) (v : Value) (n : List (List UInt8)) (s : List UInt8) (h : (Ty.sl .str).rd w [v] n) (hn : n.length ≤ 1000000) (hs : s.length ≤ 1000000) :
  Calls Tryz.prog 86 #[.agg #[v], vS s] w (RetRA2 9 w (apS n s).1 (.bool (apS n s).2)) := by
 obtain ⟨A0, c0, rfl, _, _, _⟩ := Ty.rd_sl h
 have hl0 : Row flatS (((w.alloc (.cells #[.slice A0 n.length c0] 29)).alloc (.cells #[.slice none 0 0] 29)).alloc (.cells #[] 9)) (w.heap.size + 1 + 1) 9 (.slice (some ⟨w.heap.size + 1 + 1, 0, none⟩) 0 0) [] := by
  have := Row.lit0 flatS ((w.alloc (.cells #[.slice A0 n.length c0] 29)).alloc (.cells #[.slice none 0 0] 29)) 9 (base := w.heap.size + 1 + 1) b_14
  simp only [World.size_alloc] at this
  exact this
 have HL0 := Lib.hid hl0
 clear hl0
 go_enter Tryz.func86, Tryz.ntmps86
 set_option maxRecDepth 100000 in go_wp2_with (at_builtin; go_loud (refine wpList_append_row rfl _ _ 24 rfl flatS (w.heap.size + 1 + 1) 9 info_str rfl Tryz.underlying24 _ _ [] n rfl rfl HL0.out (Ty.rd_below b_2 h) ?_ ?_ ?_ ?_))
 case refine_1 => simp only [List.length_nil]; omega
 case refine_2 => simp only [List.length_nil]; unfold maxLen; omega
 case refine_3 => simp only [World.size_alloc]; omega
 intro v1 w1 hr1 hg1
 have hb1 : Below ((w.alloc (.cells #[.slice A0 n.length c0] 29)).alloc (.cells #[.slice none 0 0] 29)).heap.size ((w.alloc (.cells #[.slice A0 n.length c0] 29)).alloc (.cells #[.slice none 0 0] 29)) w1 := bel_grown (bel_alloc (Below.refl _ _) _) b_14 hg1 (fun g hg => by simp [Value.ownBlock] at hg; simp only [World.size_alloc]; omega)
 have hz1 := hb1.size
 simp only [World.size_alloc] at hz1
 have hw1 : Below w.heap.size w w1 := bel_trans b_2 hb1
 have HR1 := Lib.hid (show Row flatS w1 (w.heap.size + 1 + 1) 9 v1 n from hr1)
 have hA1 : Blk w1 w.heap.size 29 #[.slice A0 n.length c0] := ((Blk.new w _ _).alloc _).below hb1 b_14
 have hO1 : Blk w1 (w.heap.size + 1) 29 #[.slice none 0 0] := by
  have := (Blk.new (w.alloc (.cells #[.slice A0 n.length c0] 29)) 29 #[.slice none 0 0]).below hb1 b_14
  rwa [World.size_alloc] at this
 clear hr1
 have HL1 := Lib.hid (Row.lit1 flatS w1 9 s (by show s.length ≤ _; omega) (Nat.le_refl _))
 set_option maxRecDepth 100000 in go_wp2_with (at_builtin; go_loud (refine wpList_append_row rfl _ _ 24 rfl flatS (w.heap.size + 1 + 1) 9 info_str rfl Tryz.underlying24 _ _ n [s] rfl rfl (HR1.out.below b_2) (HL1.out.rd b_16) ?_ ?_ ?_ ?_))
 case refine_1 => simp only [List.length_singleton]; omega
 case refine_2 => simp only [List.length_singleton]; unfold maxLen; omega
 case refine_3 => simp only [World.size_alloc]; omega
 intro v2 w2 hr2 hg2
 have hne : ∀ g, g < w.heap.size + 1 + 1 → some g ≠ v1.ownBlock := fun g hg e => by have := (HR1.out.block _ e.symm).1; omega
 have hA2 : Blk w2 w.heap.size 29 #[.slice A0 n.length c0] := (hA1.alloc _).grown hg2 (hne _ b_22)
 have hO2 : Blk w2 (w.heap.size + 1) 29 #[.slice none 0 0] := (hO1.alloc _).grown hg2 (hne _ b_22)
 have hw2 : Below w.heap.size w w2 := bel_grown (bel_alloc hw1 _) b_14 hg2 (fun g hg => by have := (HR1.out.block g hg).1; omega)
 have hz2 := hg2.size
 simp only [World.size_alloc] at hz2
 obtain ⟨A2, c2, rfl⟩ := hr2.form
 have HR2 := Lib.hid hr2
 have hm2 := HR2.out
 have how2 := hm2.own b_22
 obtain ⟨A2', c2', fp2, hv2, how2, hfr2⟩ := how2
 have hval := C_spec_ValidName (w2.alloc (.cells #[.slice A2 (n ++ [s]).length c2] 29)) [.slice A2 (n ++ [s]).length c2] (n ++ [s]) (Ty.rd_below b_2 (Ty.ow_rd how2))
 have HNO := Lib.hid (fun h : validName (n ++ [s]) = false => show apS n s = (n, false) from by unfold apS; rw [h]; rfl)
 have HYES := Lib.hid (fun h : validName (n ++ [s]) = true => show apS n s = (n ++ [s], true) from by unfold apS; rw [if_pos h])
 generalize validName (n ++ [s]) = vv at hval HNO HYES
 have hk2 : w2.cell? ⟨w.heap.size, 0, none⟩ = some (.slice A0 n.length c0) := hA2.cell 0
 clear hr2 hm2 hg2 hne
 generalize hnn : (n ++ [s]).length = nn at *
 go_wp2_with fail
 refine hval.mono ?_
 rintro e w3 ⟨rfl, hb3⟩
 have hs3 := hb3.size
 simp only [World.size_alloc] at hs3
 have hx3 : Below w2.heap.size w2 w3 := bel_trans (bel_alloc (Below.refl _ _) _) hb3
 have hw3 : Below w.heap.size w w3 := bel_trans hw2 hx3
 have hA3 := hA2.below hx3 b_22
 have hO3 := hO2.below hx3 b_22
 have hP3 : Blk w3 w2.heap.size 29 #[.slice A2 nn c2] := (Blk.new w2 _ _).below hb3 b_15
 have kA3 : w3.cell? ⟨w.heap.size, 0, none⟩ = some (.slice A0 n.length c0) := hA3.cell 0
 have kO3 : w3.cell? ⟨w.heap.size + 1, 0, none⟩ = some (.slice none 0 0) := hO3.cell 0
 have fO3 : w3.frozen? ⟨w.heap.size + 1, 0, none⟩ = false := hO3.frozen 0
 have kP3 : w3.cell? ⟨w2.heap.size, 0, none⟩ = some (.slice A2 nn c2) := hP3.cell 0
 have z3 : w.heap.size + 1 < w3.heap.size := by omega
 have y3 : w2.heap.size < w3.heap.size := by omega
 clear hk2 hval
 cases vv with
 | true =>
  have HY := Lib.hid (HYES.out rfl)
  go_wp2
  refine bodyPost_ret (v := .tuple #[.agg #[.slice A2 nn c2], .bool true]) (by simp [results, Tryz.results86, go_sem, kO3, fO3, z3]) rfl ?_
  rw [HY.out]
  exact ⟨_, rfl, (row_setN (HR2.out.below hx3) b_18 _).mono b_22, b_2⟩
 | false =>
  have HN := Lib.hid (HNO.out rfl)
  go_wp2_with fail
  refine (C_spec_l4CopyR _ _ n (Ty.rd_below hw3 h) b_22).mono ?_
  rintro e w4 ⟨v4, rfl, hr4, hb4⟩
  have hO4 := hO3.below hb4 z3
  have kO4 : w4.cell? ⟨w.heap.size + 1, 0, none⟩ = some (.slice none 0 0) := hO4.cell 0
  have fO4 : w4.frozen? ⟨w.heap.size + 1, 0, none⟩ = false := hO4.frozen 0
  have z4 : w.heap.size + 1 < w4.heap.size := hO4.lt
  have hs4 := hb4.size
  have HR4 := Lib.hid hr4
  obtain ⟨A4, c4, rfl⟩ := hr4.form
  clear hr4 kO3 fO3
  go_wp2
  refine bodyPost_ret (v := .tuple #[.agg #[.slice A4 n.length c4], .bool false]) (by simp [results, Tryz.results86, go_sem, kO4, fO4, z4]) rfl ?_
  rw [HN.out]
  exact ⟨_, rfl, (row_setN HR4.out b_18 _).mono b_22, bel_set (bel_trans hw3 hb4) b_18 _⟩
theorem Blk.c1 {w : World} {g : Nat} {t : TypeId} {v : Value} (h : Blk w g t #[v]) : w.cell? ⟨g, 0, none⟩ = some v := h.cell 0
theorem Blk.f1 {w : World} {g i : Nat} {t : TypeId} {cs : Array Value} (h : Blk w g t cs) : w.frozen? ⟨g, i, none⟩ = false := h.frozen i
theorem rd_litsA {B : Nat} {w : World} {te : TypeId} {l : List (List UInt8)} {arr : Array Value} {g n c : Nat} (ha : arr = (l.map flatS.enc).toArray) (hl : (l.all fun s => decide (s.length ≤ 256)) = true) (hg : g = w.heap.size) (hn : n = l.length) (hc : c = n) (h256 : l.length ≤ 256) (hB : B < w.heap.size) :
  (Ty.sl .str).rd (hide B (w.alloc (.cells arr te))) [.slice (some ⟨g, 0, none⟩) n c] l := by
 subst ha hg hn hc
 exact rd_lits B w te l (fun s hs => by have := List.all_eq_true.1 hl s hs; simp only [decide_eq_true_eq] at this; omega) h256 hB
theorem apS_ok {n : List (List UInt8)} {s : List UInt8} (h : validName n = true) : validName (apS n s).1 = true := by
 unfold apS; split
 ·assumption
 ·exact h
theorem validName_len {n : List (List UInt8)} (h : validName n = true) : n.length ≤ 6 := by
 unfold validName at h
 simp only [Bool.and_eq_true, decide_eq_true_eq] at h
 exact h.2
theorem l6_len {s : List UInt8} (h : s ∈ [[97], [98], [110, 101, 119, 115], [120, 45, 49], [49], [107, 101, 121]]) : s.length ≤ 1000000 := by
 simp at h
 rcases h with rfl | rfl | rfl | rfl | rfl | rfl <;> simp
set_option maxRecDepth 100000 in
set_option maxHeartbeats 2000000 in
theorem C_spec_l4Name (w : World) (B : Nat) (hc : CurT w B) :
  Calls Tryz.prog 76 #[pB B] w (RetDT B w (fun e w' => ∃ v n, e = .returned (.agg #[v]) ∧ Row flatS w' w.heap.size 9 v n ∧ validName n = true)) := by
 have hB := hc.lt
 go_enter Tryz.func76, Tryz.ntmps76
 go_wp2_with fail
 refine (C_spec_l1Below _ B 4 b_4 b_21 b_21).mono ?_
 rintro e w1 ⟨hd1, hc1, x, rfl, hx0, hx1⟩
 have hO1 : Blk w1 w.heap.size 29 #[.slice none 0 0] := Dr.blk hd1 ((Blk.new w _ _).alloc _) b_22
 have hN1 : Blk w1 (w.heap.size + 1) 29 #[.slice none 0 0] := Dr.blk hd1 (by have := Blk.new (w.alloc (.cells #[.slice none 0 0] 29)) 29 #[.slice none 0 0]; rwa [World.size_alloc] at this) b_22
 have hD1 : Dr B w w1 := b_1
 have z1 := hd1.size
 simp only [World.size_alloc] at z1
 go_wp2
 go_loopw [4] (fun i wr => ∃ (k : Int) (v : Value) (n : List (List UInt8)), i = .int .i64 k ∧ k ≤ 3 ∧ 0 ≤ k ∧ CurT wr B ∧ Dr B w wr ∧ Blk wr w.heap.size 29 #[.slice none 0 0] ∧ Blk wr (w.heap.size + 1) 29 #[v] ∧ Row flatS wr (w.heap.size + 1 + 1) 9 v n ∧ validName n = true) (fun i _ => (intOf i).toNat)
 case atStart => exact ⟨x, _, [], rfl, by omega, by omega, hc1, hD1, hO1, hN1, Row.nil _ _ _ _, rfl⟩
 case round =>
  obtain ⟨k, v, n, rfl, hk3, hk0, hcr, hdr, hO, hN, hR, hV⟩ := hrel
  have zr : w.heap.size + 1 < wr.heap.size := hN.lt
  have kO := hO.c1
  have kN : wr.cell? ⟨w.heap.size + 1, 0, none⟩ = some v := hN.cell 0
  have fN : wr.frozen? ⟨w.heap.size + 1, 0, none⟩ = false := hN.frozen 0
  obtain ⟨A, c, rfl⟩ := hR.form
  have HR := Lib.hid hR
  have hnl := validName_len hV
  clear hR hO1 hN1 hD1 hd1
  by_cases hlt : 0 < k
  ·go_wp2_with fail
   refine wp_region_noPanic ?_
   refine wp_region_held_drew (S := (fun _ => True)) b_20 ?_ (fun hHeld => ?_)
   ·trivial
   refine tkz 1 ?_
   try simp only [layz]
   refine rz2 0 2 (fun K hK => ?_) (fun K hK => ?_)
   ·go_simp
    refine hK.out _ _ ?_ (fun hHeld => ?_)
    ·(try dsimp only)
     try trivial
    clear hK K
    try simp only [layz]
    refine rz1 2 (fun K hK => ?_)
    go_simp
    refine hK.out _ _ ?_ (fun hHeld => ?_)
    ·(try dsimp only)
     try trivial
    clear hK K
    try simp only [layz]
    refine rz1 3 (fun K hK => ?_)
    go_simp
    go_at_call 31
    refine (C_spec_l1Str _ B _ [[97], [98], [110, 101, 119, 115], [120, 45, 49], [49], [107, 101, 121]] b_4 b_3 b_21 b_21).mono ?_
    rintro e w3 ⟨hd3, hc3, s, hs, rfl⟩
    have z3 := hd3.size
    simp only [World.size_alloc, World.size_drew, size_drewN] at z3
    have E3 : Dr B wr w3 := b_1
    have D3 : Dr B w w3 := hdr.trans E3
    have R3 := Row.dr HR.out E3 b_22
    have hO3 : Blk w3 w.heap.size 29 #[.slice none 0 0] := Dr.blk hd3 b_8 b_22
    have hN3 : Blk w3 (w.heap.size + 1) 29 #[.slice A n.length c] := Dr.blk hd3 b_8 b_22
    have kN := hN3.c1
    refine hK.out _ _ ?_ (fun hHeld => ?_)
    ·(try dsimp only)
     try trivial
    clear hK K
    try simp only [layz]
    refine rz1 4 (fun K hK => ?_)
    go_simp
    go_at_call 86
    refine (C_spec_AppendPart _ _ n s (Ty.rd_below b_2 (R3.rd b_22)) b_22 (l6_len hs)).mono ?_
    rintro e w4 ⟨v4, rfl, hr4, hb4⟩
    have z4 := hb4.size
    (try simp only [World.size_alloc, World.size_drew, size_drewN] at z4)
    have D4 : Dr B w w4 := Dr.then_ b_1 hb4
    have C4 : CurT w4 B := Cur.below b_4 hb4
    have hO4 : Blk w4 w.heap.size 29 #[.slice none 0 0] := Blk.below b_8 hb4 b_22
    have hN4 : Blk w4 (w.heap.size + 1) 29 #[.slice A n.length c] := Blk.below b_8 hb4 b_22
    have k4 : w4.cell? ⟨w.heap.size + 1, 0, none⟩ = some (.slice A n.length c) := hN4.cell 0
    have f4 : w4.frozen? ⟨w.heap.size + 1, 0, none⟩ = false := hN4.frozen 0
    have HR4 := Lib.hid hr4
    obtain ⟨A4, c4, rfl⟩ := hr4.form
    clear hr4
    refine hK.out _ _ ?_ (fun hHeld => ?_)
    ·(try dsimp only)
     try trivial
    clear hK K
    try simp only [layz]
    refine tkz3 5 6 7 ?_
    try simp only [layz]
    refine rz1 8 (fun K hK => ?_)
    go_simp
    have C5 : CurT (w4.setCell ⟨w.heap.size + 1, 0, none⟩ (.slice A4 (apS n s).fst.length c4)) B := b_4
    have D5 : Dr B w (w4.setCell ⟨w.heap.size + 1, 0, none⟩ (.slice A4 (apS n s).fst.length c4)) := b_1
    have hN5 := hN4.set_ 0 (.slice A4 (apS n s).fst.length c4)
    have hO5 := hO4.far (p := ⟨w.heap.size + 1, 0, none⟩) b_18 (.slice A4 (apS n s).fst.length c4)
    have R5 := (row_setN HR4.out (p := ⟨w.heap.size + 1, 0, none⟩) b_18 (.slice A4 (apS n s).fst.length c4)).mono (base' := w.heap.size + 1 + 1) b_22
    refine hK.out _ _ ?_ (fun hHeld => ?_)
    ·(try dsimp only)
     try trivial
    clear hK K
    try simp only [layz]
    refine wpAnyH_done b_20 ?_ _
    refine NoPanic.normal ?_
    go_wp2
    go_roundw
    case rel => exact ⟨k - 1, _, _, rfl, by omega, by omega, C5, D5, hO5, hN5, R5, apS_ok hV⟩
    case measure => simp [intOf]; omega
   ·go_simp
    refine hK.out _ _ ?_ (fun hHeld => ?_)
    ·(try dsimp only)
     try trivial
    clear hK K
    try simp only [layz]
    refine rz2 0 3 (fun K hK => ?_) (fun K hK => ?_)
    ·go_simp
     refine hK.out _ _ ?_ (fun hHeld => ?_)
     ·(try dsimp only)
      try trivial
     clear hK K
     try simp only [layz]
     refine rz1 3 (fun K hK => ?_)
     go_simp
     go_at_call 31
     refine (C_spec_l1Str _ B _ [[97], [98], [110, 101, 119, 115], [120, 45, 49], [49], [107, 101, 121]] b_4 b_3 b_21 b_21).mono ?_
     rintro e w3 ⟨hd3, hc3, s, hs, rfl⟩
     have z3 := hd3.size
     simp only [World.size_alloc, World.size_drew, size_drewN] at z3
     have E3 : Dr B wr w3 := b_1
     have D3 : Dr B w w3 := hdr.trans E3
     have R3 := Row.dr HR.out E3 b_22
     have hO3 : Blk w3 w.heap.size 29 #[.slice none 0 0] := Dr.blk hd3 b_8 b_22
     have hN3 : Blk w3 (w.heap.size + 1) 29 #[.slice A n.length c] := Dr.blk hd3 b_8 b_22
     have kN := hN3.c1
     refine hK.out _ _ ?_ (fun hHeld => ?_)
     ·(try dsimp only)
      try trivial
     clear hK K
     try simp only [layz]
     refine rz1 4 (fun K hK => ?_)
     go_simp
     go_at_call 86
     refine (C_spec_AppendPart _ _ n s (Ty.rd_below b_2 (R3.rd b_22)) b_22 (l6_len hs)).mono ?_
     rintro e w4 ⟨v4, rfl, hr4, hb4⟩
     have z4 := hb4.size
     (try simp only [World.size_alloc, World.size_drew, size_drewN] at z4)
     have D4 : Dr B w w4 := Dr.then_ b_1 hb4
     have C4 : CurT w4 B := Cur.below b_4 hb4
     have hO4 : Blk w4 w.heap.size 29 #[.slice none 0 0] := Blk.below b_8 hb4 b_22
     have hN4 : Blk w4 (w.heap.size + 1) 29 #[.slice A n.length c] := Blk.below b_8 hb4 b_22
     have k4 : w4.cell? ⟨w.heap.size + 1, 0, none⟩ = some (.slice A n.length c) := hN4.cell 0
     have f4 : w4.frozen? ⟨w.heap.size + 1, 0, none⟩ = false := hN4.frozen 0
     have HR4 := Lib.hid hr4
     obtain ⟨A4, c4, rfl⟩ := hr4.form
     clear hr4
     refine hK.out _ _ ?_ (fun hHeld => ?_)
     ·(try dsimp only)
      try trivial
     clear hK K
     try simp only [layz]
     refine tkz3 5 6 7 ?_
     try simp only [layz]
     refine rz1 8 (fun K hK => ?_)
     go_simp
     have C5 : CurT (w4.setCell ⟨w.heap.size + 1, 0, none⟩ (.slice A4 (apS n s).fst.length c4)) B := b_4
     have D5 : Dr B w (w4.setCell ⟨w.heap.size + 1, 0, none⟩ (.slice A4 (apS n s).fst.length c4)) := b_1
     have hN5 := hN4.set_ 0 (.slice A4 (apS n s).fst.length c4)
     have hO5 := hO4.far (p := ⟨w.heap.size + 1, 0, none⟩) b_18 (.slice A4 (apS n s).fst.length c4)
     have R5 := (row_setN HR4.out (p := ⟨w.heap.size + 1, 0, none⟩) b_18 (.slice A4 (apS n s).fst.length c4)).mono (base' := w.heap.size + 1 + 1) b_22
     refine hK.out _ _ ?_ (fun hHeld => ?_)
     ·(try dsimp only)
      try trivial
     clear hK K
     try simp only [layz]
     refine wpAnyH_done b_20 ?_ _
     refine NoPanic.normal ?_
     go_wp2
     go_roundw
     case rel => exact ⟨k - 1, _, _, rfl, by omega, by omega, C5, D5, hO5, hN5, R5, apS_ok hV⟩
     case measure => simp [intOf]; omega
    ·go_simp
     go_at_call 31
     refine (C_spec_l1Str _ B _ [[97], [98], [110, 101, 119, 115], [120, 45, 49], [49], [107, 101, 121]] b_4 b_3 b_21 b_21).mono ?_
     rintro e w3 ⟨hd3, hc3, s, hs, rfl⟩
     have z3 := hd3.size
     simp only [World.size_alloc, World.size_drew, size_drewN] at z3
     have E3 : Dr B wr w3 := b_1
     have D3 : Dr B w w3 := hdr.trans E3
     have R3 := Row.dr HR.out E3 b_22
     have hO3 : Blk w3 w.heap.size 29 #[.slice none 0 0] := Dr.blk hd3 b_8 b_22
     have hN3 : Blk w3 (w.heap.size + 1) 29 #[.slice A n.length c] := Dr.blk hd3 b_8 b_22
     have kN := hN3.c1
     refine hK.out _ _ ?_ (fun hHeld => ?_)
     ·(try dsimp only)
      try trivial
     clear hK K
     try simp only [layz]
     refine rz1 0 (fun K hK => ?_)
     go_simp
     refine hK.out _ _ ?_ (fun hHeld => ?_)
     ·(try dsimp only)
      try trivial
     clear hK K
     try simp only [layz]
     refine rz1 4 (fun K hK => ?_)
     go_simp
     go_at_call 86
     refine (C_spec_AppendPart _ _ n s (Ty.rd_below b_2 (R3.rd b_22)) b_22 (l6_len hs)).mono ?_
     rintro e w4 ⟨v4, rfl, hr4, hb4⟩
     have z4 := hb4.size
     (try simp only [World.size_alloc, World.size_drew, size_drewN] at z4)
     have D4 : Dr B w w4 := Dr.then_ b_1 hb4
     have C4 : CurT w4 B := Cur.below b_4 hb4
     have hO4 : Blk w4 w.heap.size 29 #[.slice none 0 0] := Blk.below b_8 hb4 b_22
     have hN4 : Blk w4 (w.heap.size + 1) 29 #[.slice A n.length c] := Blk.below b_8 hb4 b_22
     have k4 : w4.cell? ⟨w.heap.size + 1, 0, none⟩ = some (.slice A n.length c) := hN4.cell 0
     have f4 : w4.frozen? ⟨w.heap.size + 1, 0, none⟩ = false := hN4.frozen 0
     have HR4 := Lib.hid hr4
     obtain ⟨A4, c4, rfl⟩ := hr4.form
     clear hr4
     refine hK.out _ _ ?_ (fun hHeld => ?_)
     ·(try dsimp only)
      try trivial
     clear hK K
     try simp only [layz]
     refine tkz3 5 6 7 ?_
     try simp only [layz]
     refine rz1 8 (fun K hK => ?_)
     go_simp
     have C5 : CurT (w4.setCell ⟨w.heap.size + 1, 0, none⟩ (.slice A4 (apS n s).fst.length c4)) B := b_4
     have D5 : Dr B w (w4.setCell ⟨w.heap.size + 1, 0, none⟩ (.slice A4 (apS n s).fst.length c4)) := b_1
     have hN5 := hN4.set_ 0 (.slice A4 (apS n s).fst.length c4)
     have hO5 := hO4.far (p := ⟨w.heap.size + 1, 0, none⟩) b_18 (.slice A4 (apS n s).fst.length c4)
     have R5 := (row_setN HR4.out (p := ⟨w.heap.size + 1, 0, none⟩) b_18 (.slice A4 (apS n s).fst.length c4)).mono (base' := w.heap.size + 1 + 1) b_22
     refine hK.out _ _ ?_ (fun hHeld => ?_)
     ·(try dsimp only)
      try trivial
     clear hK K
     try simp only [layz]
     refine wpAnyH_done b_20 ?_ _
     refine NoPanic.normal ?_
     go_wp2
     go_roundw
     case rel => exact ⟨k - 1, _, _, rfl, by omega, by omega, C5, D5, hO5, hN5, R5, apS_ok hV⟩
     case measure => simp [intOf]; omega
  ·have fO : wr.frozen? ⟨w.heap.size, 0, none⟩ = false := hO.f1
   have zO := hO.lt
   have CO : CurT (wr.setCell ⟨w.heap.size, 0, none⟩ (.slice A n.length c)) B := b_4
   go_wp2
   refine bodyPost_ret (v := .agg #[.slice A n.length c]) (by simp [results, Tryz.results76, go_sem, kO, fO, zO]) rfl ?_
   exact ⟨b_1, CO, _, rfl, _, (row_setN HR.out b_18 _).mono b_22, hV⟩
theorem Row.ow {e : Ty} {F : Flat e} {w : World} {base : Nat} {te : TypeId} {A : Option Addr} {c n : Nat} {x : List e.D} (h : Row F w base te (.slice A n c) x) (hb : base ≤ w.heap.size) : ∃ fp, (Ty.sl e).ow w [.slice A n c] x fp ∧ FrI base w.heap.size fp := by
 obtain ⟨A', c', fp, hv, how, hfr⟩ := h.own hb
 exact ⟨fp, how, hfr⟩
def DrA (t : Ty) (w : World) (ok : t.D → Prop) (e : Ending) (w' : World) : Prop := ∃ cs x fp, e = .returned (.agg cs.toArray) ∧ t.ow w' cs x fp ∧ FrI w.heap.size w'.heap.size fp ∧ ok x
theorem Dr.grown {B : Nat} {w w1 w' : World} {row : Option Nat} (h : Dr B w w1) (hg : w1.grownBy w' row) (hr : ∀ g, row = some g → w.heap.size ≤ g) : Dr B w w' := by
 have h1 := h.size
 refine ⟨hg.os.trans h.os, hg.tape.trans h.tape, hg.output.trans h.output, by rw [hide_size, hide_size]; have := hg.size; omega, fun k hk => ?_⟩
 by_cases e : k = B
 ·subst e
  rw [hide_same (by have := hg.size; omega), hide_same hk]
 ·rw [hide_other e, hide_other e, hg.block k b_22 (fun e' => by have := hr k e'.symm; omega)]
  have := Below.block h k hk
  rw [hide_other e, hide_other e] at this
  exact this
def lenVd : Value → Nat
 | .slice _ n _ => n
 | _ => 0
end Go.Proofs.YtidnahocnhcoiaaGreatDoor
