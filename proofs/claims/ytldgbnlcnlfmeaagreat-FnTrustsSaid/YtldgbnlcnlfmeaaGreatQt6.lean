/- Texts of this claim, merged by a program: Cat Dat Key Kdg. -/
import Derived.Test.YtldgbnlcnlfmeaaGreatQtP
import Derived.Test.YtldgbnlcnlfmeaaGreatQt5
import Derived.Lib.AppendZeros
import Derived.Test.YtldgbnlcnlfmeaaGreatQt2
import Derived.Deep.RegionHeld3
import Derived.Test.YtldgbnlcnlfmeaaGreatQt3
namespace Go.Proofs.YtldgbnlcnlfmeaaGreat
open Go.RowKit
set_option linter.unusedVariables false
set_option linter.unusedSimpArgs false
set_option maxHeartbeats 1000000 in
theorem C_slices_Grow_int (w : World) (n : Nat) (h0 : 0 < n) (hn : n ≤ 1099511627776) : Calls Tryz.prog 179 #[.slice none 0 0, .int .i64 n] w (RetRow flatI w 3 []) := by
 obtain ⟨i, hi, hzz⟩ := Option.map_eq_some_iff.1 infoI
 simp only [Prod.mk.injEq] at hzz
 obtain ⟨hz, hsz, hby⟩ := hzz
 have hap := Lib.run_append_nil_zeros (P := Tryz.prog) w 76 3 76 3 i (.int .i64 0) .i64 .i64 Tryz.underlying76 Tryz.underlying3 hi hz n h0 b_37 b_37 (by rw [hby]; omega)
 have hge := grownCap_ge w n 0 3
 have hle := grownCap_le_maxLen w n 0 3 (by unfold maxLen; omega)
 generalize grownCap w n 0 3 = cap at hap hge hle
 have hrow : Row flatI (w.drew.alloc (.cells (Builtin.zeroCells (Value.int .i64 0).cells n ++ Builtin.zeroCells (Value.int .i64 0).cells (cap - n)) 3)) w.heap.size 3 (.slice (some ⟨w.heap.size, 0, none⟩) 0 cap) [] :=
  ⟨⟨rfl, .inr ⟨w.heap.size, cap, _, rfl, Nat.le_refl _, heap_alloc_new w.drew _, Nat.zero_le _, hle, by rw [Array.size_append, size_zeroCells, size_zeroCells]; simp [Value.cells]; omega, rfl⟩⟩, fun d hd => absurd hd b_38⟩
 have HROW := Lib.hid hrow
 have HAP := Lib.hid hap
 clear hrow hap hi hz hsz hby
 have hnz : (0 : Int) < n := by omega
 have hcap : (cap : Int) ≤ 9223372036854775807 := by unfold maxLen at hle; omega
 go_enter Tryz.func179, Tryz.ntmps179
 set_option maxRecDepth 100000 in go_wp2_with (at_builtin; go_loud (refine Lib.wpList_append_run _ rfl _ _ _ _ rfl _ _ rfl rfl _ _ HAP.out ?_))
 have hbel : Below w.heap.size w (w.drew.alloc (.cells (Builtin.zeroCells (Value.int .i64 0).cells n ++ Builtin.zeroCells (Value.int .i64 0).cells (cap - n)) 3)) := bel_alloc (bel_drew (Below.refl _ _)) _
 go_wp2
 go_ret
 exact ⟨_, rfl, HROW.out, hbel⟩
theorem flatten_take {α : Type} (xs : List (List α)) {k : Nat} (h : k < xs.length) : (xs.take (k + 1)).flatten = (xs.take k).flatten ++ xs[k] := by
 rw [List.take_succ_eq_append_getElem h, List.flatten_append]; simp
theorem sum_take_le {α : Type} (f : α → Nat) (xs : List α) (k : Nat) : ((xs.take k).map f).sum ≤ (xs.map f).sum := by
 rw [← List.take_append_drop k xs, List.map_append, List.sum_append, List.take_append_drop]; omega
set_option maxHeartbeats 1000000 in
theorem C_slices_Concat_int (w : World) (v : Value) (xs : List (List Int)) (h : (Ty.sl (.sl .int)).rd w [v] xs) (h0 : 0 < (xs.map List.length).sum) (hx : (xs.map List.length).sum ≤ 1099511627776) :
  Calls Tryz.prog 162 #[v] w (RetRow flatI w 3 xs.flatten) := by
 obtain ⟨A, c, rfl, hc, hm, hn⟩ := Ty.rd_sl h
 go_enter Tryz.func162, Tryz.ntmps162
 go_wp2
 go_loopw [3, 11] (fun s i wr => ∃ k : Nat, k ≤ xs.length ∧ i = .int .i64 k ∧ s = .int .i64 (((xs.take k).map List.length).sum : Nat) ∧ wr = w) (fun _ i _ => xs.length - (intOf i).toNat)
 case atStart => exact ⟨0, by omega, rfl, by simp, rfl⟩
 case round =>
  obtain ⟨k, hk, rfl, rfl, hwr⟩ := hrel
  obtain rfl : w = wr := hwr.symm
  clear hwr
  by_cases hlt : k < xs.length
  ·obtain ⟨b, o, ds, rfl, hl, hcell, hrd⟩ := Ty.rd_at h hlt
   obtain ⟨A1, c1, rfl⟩ := Ty.rd_slv hrd
   have e0 : w.cell? ⟨b, o + k, none⟩ = some (.slice A1 (List.length xs[k]) c1) := by simpa [Ty.sz] using hcell 0 b_36
   clear hcell hl
   have HS := Lib.hid (sum_take_succ List.length xs hlt)
   have hb1 := sum_take_le List.length xs (k + 1)
   rw [HS.out] at hb1
   generalize ((xs.take k).map List.length).sum = s at HS hb1 ⊢
   go_wp2
   go_roundw
   case rel => exact ⟨k + 1, by omega, by go_num, by rw [HS.out]; go_num, by first | rfl | trivial⟩
   case measure => simp [intOf]; omega
  ·have hE : (xs.take k).map List.length = xs.map List.length := by rw [List.take_of_length_le b_37]
   rw [hE]
   clear hE
   generalize hT : (xs.map List.length).sum = T at h0 hx ⊢
   have HT := Lib.hid hT
   clear hT
   go_wp2_with fail
   refine (C_slices_Grow_int _ T h0 hx).mono ?_
   rintro e w1 ⟨v1, rfl, hr1, hb1⟩
   have HR1 := Lib.hid hr1
   clear hr1
   go_wp2
   go_loopw [6, 27] (fun l i wr2 => ∃ k : Nat, k ≤ xs.length ∧ i = .int .i64 k ∧ Row flatI wr2 w.heap.size 3 l (xs.take k).flatten ∧ Below w.heap.size w wr2) (fun _ i _ => xs.length - (intOf i).toNat)
   case atStart => exact ⟨0, by omega, rfl, HR1.out, hb1⟩
   case round =>
    obtain ⟨k2, hk2, rfl, hr, hb⟩ := hrel
    have HR := Lib.hid hr
    clear hr
    by_cases hlt2 : k2 < xs.length
    ·obtain ⟨b, o, ds, rfl, hl, hcell, hrd⟩ := Ty.rd_at (Ty.rd_below hb h) hlt2
     obtain ⟨A1, c1, rfl⟩ := Ty.rd_slv hrd
     have e0 : wr.cell? ⟨b, o + k2, none⟩ = some (Value.slice A1 (List.length xs[k2]) c1) := by simpa [Ty.sz] using hcell 0 b_36
     clear hcell hl
     have HP := Lib.hid (flatten_take xs hlt2)
     have HS := Lib.hid (sum_take_succ List.length xs hlt2)
     have HB := Lib.hid (sum_take_le List.length xs (k2 + 1))
     have HL := Lib.hid (show ((xs.take k2).flatten).length = ((xs.take k2).map List.length).sum from by rw [List.length_flatten])
     set_option maxRecDepth 100000 in go_wp2_with (at_builtin; go_loud (refine wpList_append_row rfl _ _ 76 rfl flatI w.heap.size 3 infoI rfl Tryz.underlying76 _ _ (xs.take k2).flatten xs[k2] rfl rfl HR.out hrd ?_ ?_ ?_ ?_))
     case refine_1 => have h1 := HS.out; have h2 := HB.out; have h3 := HL.out; have h4 := HT.out; omega
     case refine_2 => have h1 := HS.out; have h2 := HB.out; have h3 := HL.out; have h4 := HT.out; unfold maxLen; omega
     case refine_3 => exact hb.size
     case refine_4 =>
      intro v' w' hr' hg'
      have hb' : Below w.heap.size w w' := bel_grown hb hb.size hg' (fun g hg => (HR.out.block g hg).1)
      have HR' := Lib.hid hr'
      clear hr'
      go_wp2
      go_roundw
      case rel => exact ⟨k2 + 1, by omega, by go_num, by rw [HP.out]; exact HR'.out, hb'⟩
      case measure => simp [intOf]; omega
    ·have HE : Hid ((xs.take k2).flatten = xs.flatten) := by rw [List.take_of_length_le b_37]; exact rfl
     go_wp2
     go_ret
     exact ⟨_, rfl, by rw [← HE.out]; exact HR.out, hb⟩
theorem rd_lit3 (w : World) (te : TypeId) {e : Ty} (hz : e.sz = 1) (a b c : Value) (x y z : e.D) (h1 : e.rd w [a] x) (h2 : e.rd w [b] y) (h3 : e.rd w [c] z) :
  (Ty.sl e).rd (w.alloc (.cells #[a, b, c] te)) [.slice (some ⟨w.heap.size, 0, none⟩) 3 3] [x, y, z] := by
 have hb : Below w.heap.size w (w.alloc (.cells #[a, b, c] te)) := bel_alloc (Below.refl _ _) _
 refine ⟨_, _, rfl, Nat.le_refl _, ⟨by unfold maxLen; omega, fun h => by cases h⟩, by show 3 ≤ _; omega, fun _ => ⟨w.heap.size, 0, rfl, fun i hi => ?_⟩⟩
 have hi3 : i < 3 := hi
 have hc : ∀ j, (w.alloc (.cells #[a, b, c] te)).cell? ⟨w.heap.size, j, none⟩ = #[a, b, c][j]? := fun j => cell_new w te _ j rfl
 rcases i with _ | _ | _ | i
 ·refine ⟨[a], by rw [hz]; rfl, fun j hj => ?_, Ty.rd_below hb h1⟩
  rw [hz] at hj
  obtain rfl : j = 0 := by omega
  rw [hc, hz]
  rfl
 ·refine ⟨[b], by rw [hz]; rfl, fun j hj => ?_, Ty.rd_below hb h2⟩
  rw [hz] at hj
  obtain rfl : j = 0 := by omega
  rw [hc, hz]
  rfl
 ·refine ⟨[c], by rw [hz]; rfl, fun j hj => ?_, Ty.rd_below hb h3⟩
  rw [hz] at hj
  obtain rfl : j = 0 := by omega
  rw [hc, hz]
  rfl
 ·omega
set_option maxHeartbeats 1000000 in
theorem C_impl_ComputeMAC (w : World) (v : Value) (s : Int) (x : List Int) (hs : -9223372036854775808 ≤ s ∧ s ≤ 9223372036854775807) (h : (Ty.sl .int).rd w [v] x) (hx : x.length ≤ 1000000000000) :
  Calls Tryz.prog 131 #[.int .i64 s, v] w (RetI w (mac s x)) := by
 obtain ⟨A, c, rfl, hc, hm, hn⟩ := Ty.rd_sl h
 have H1 := Ty.rd_below (w' := (w.alloc (.cells #[.int .i64 s] 3)).alloc (.cells #[.int .i64 s] 3)) (bel_alloc (Below.refl _ _) _) ((Row.lit1 flatI w 3 s (okI hs.1 hs.2) (Nat.le_refl _)).rd b_30)
 have H2 := (Row.lit1 flatI (w.alloc (.cells #[.int .i64 s] 3)) 3 s (okI hs.1 hs.2) (Nat.le_refl _)).rd b_30
 have H3 := rd_lit3 ((w.alloc (.cells #[.int .i64 s] 3)).alloc (.cells #[.int .i64 s] 3)) 76 (e := .sl .int) rfl _ _ _ [s] x [s] H1 (Ty.rd_below (bel_alloc (bel_alloc (Below.refl _ _) _) _) h) H2
 simp only [World.size_alloc] at H3
 have HR := Lib.hid H3
 clear H1 H2 H3
 go_enter Tryz.func131, Tryz.ntmps131
 go_wp2_with fail
 refine (C_slices_Concat_int _ _ [[s], x, [s]] HR.out (by simp only [List.map_cons, List.map_nil, List.sum_cons, List.sum_nil, List.length_cons, List.length_nil]; omega) (by simp only [List.map_cons, List.map_nil, List.sum_cons, List.sum_nil, List.length_cons, List.length_nil]; omega)).mono ?_
 rintro e w1 ⟨v1, rfl, hr1, hb1⟩
 have hw1 : Below w.heap.size w w1 := bel_trans b_10 hb1
 have HR1 := Lib.hid hr1
 clear hr1
 go_wp2_with fail
 refine (C_impl_Digest _ _ _ (HR1.out.rd hb1.size)).mono ?_
 rintro e w2 ⟨rfl, hb2⟩
 have hw2 : Below w.heap.size w w2 := bel_trans hw1 hb2
 go_wp2
 go_ret
 exact ⟨ret_int (by unfold mac; simp), hw2⟩
def f_FreshAt (x : tData.D) (a : Int) : Bool := decide (a ≤ x.2.2.2.1)
set_option maxHeartbeats 400000 in
theorem C_spec_FreshAt (w : World) (cs : List Value) (x : tData.D) (a : Int) (h : tData.rd w cs x) (s0 : Ty.bulk tData x ≤ 1048576) (i1 : -9223372036854775808 ≤ a ∧ a ≤ 9223372036854775807) :
  Calls Tryz.prog 72 #[.agg cs.toArray, .int .i64 a] w (RetB w (f_FreshAt x a)) := by
 obtain ⟨A00, c00, A01, c01, A02, c02, rfl, _, _, _, _, _⟩ := rd_Data h
 go_enter Tryz.func72, Tryz.ntmps72
 go_wp2
 go_ret
 exact ⟨rfl, b_10⟩
set_option maxHeartbeats 400000 in
theorem C_impl_FreshAt (w : World) (cs : List Value) (x : tData.D) (a : Int) (h : tData.rd w cs x) (s0 : Ty.bulk tData x ≤ 1048576) (i1 : -9223372036854775808 ≤ a ∧ a ≤ 9223372036854775807) :
  Calls Tryz.prog 69 #[.agg cs.toArray, .int .i64 a] w (RetB w (f_FreshAt x a)) := by
 obtain ⟨A00, c00, A01, c01, A02, c02, rfl, _, _, _, _, _⟩ := rd_Data h
 go_enter Tryz.func69, Tryz.ntmps69
 go_wp2
 go_ret
 exact ⟨rfl, b_10⟩
def f_EqualData (x y : tData.D) : Bool := decide (x.1 = y.1) && (decide (x.2.1 = y.2.1) && (decide (x.2.2.1 = y.2.2.1) && (decide (x.2.2.2.1 = y.2.2.2.1) && decide (x.2.2.2.2 = y.2.2.2.2))))
set_option maxHeartbeats 1000000 in
theorem C_impl_EqualNames (w : World) (cs1 cs2 : List Value) (x y : List (List UInt8)) (h1 : (Ty.sl .str).rd w cs1 x) (h2 : (Ty.sl .str).rd w cs2 y) :
  Calls Tryz.prog 68 #[.agg cs1.toArray, .agg cs2.toArray] w (RetB w (decide (x = y))) := by
 obtain ⟨A1, c1, rfl⟩ := Ty.rd_slv h1
 obtain ⟨A2, c2, rfl⟩ := Ty.rd_slv h2
 go_enter Tryz.func68, Tryz.ntmps68
 go_wp2_with fail
 refine (C_slices_Equal_str _ _ _ x y (Ty.rd_below b_10 h1) (Ty.rd_below b_10 h2)).mono ?_
 rintro e w1 ⟨rfl, hb1⟩
 have hw1 : Below w.heap.size w w1 := bel_trans b_10 hb1
 go_wp2
 go_ret
 exact ⟨rfl, hw1⟩
set_option maxHeartbeats 1000000 in
theorem C_slices_Equal_byte (w : World) (v1 v2 : Value) (x y : List UInt8) (h1 : (Ty.sl .byte).rd w [v1] x) (h2 : (Ty.sl .byte).rd w [v2] y) :
  Calls Tryz.prog 70 #[v1, v2] w (RetB w (decide (x = y))) := by
 obtain ⟨A1, c1, rfl, hc1, hm1, hn1⟩ := Ty.rd_sl h1
 obtain ⟨A2, c2, rfl, hc2, hm2, hn2⟩ := Ty.rd_sl h2
 by_cases hl : x.length = y.length
 ·have q1 : ((x.length : Int) != y.length) = false := by simp [hl]
  have HL := Lib.hid hl
  clear hl
  go_enter Tryz.func70, Tryz.ntmps70
  go_wp2
  go_loopw [13] (fun i wr => ∃ k : Nat, k ≤ x.length ∧ i = .int .i64 k ∧ x.take k = y.take k ∧ Below w.heap.size w wr) (fun i _ => x.length - (intOf i).toNat)
  case atStart => exact ⟨0, by omega, rfl, rfl, Below.refl _ _⟩
  case round =>
   obtain ⟨k, hk, rfl, htk, hb⟩ := hrel
   have HT := Lib.hid htk
   clear htk
   by_cases hlt : k < x.length
   ·have hlt2 : k < y.length := by have := HL.out; omega
    obtain ⟨b1, o1, rfl, e1⟩ := Ty.rd_byte_at (Ty.rd_below hb h1) hlt
    obtain ⟨b2, o2, rfl, e2⟩ := Ty.rd_byte_at (Ty.rd_below hb h2) hlt2
    by_cases he : x[k] = y[k]
    ·have q2 : ((x[k].toNat : Int) != y[k].toNat) = false := by simp [he]
     have HE := Lib.hid he
     clear he
     go_wp2
     go_quiet (fail)
     go_wp2
     go_roundw
     case rel => exact ⟨k + 1, by omega, by go_num, by rw [List.take_succ_eq_append_getElem hlt, List.take_succ_eq_append_getElem hlt2, HT.out, HE.out], bel_drewN hb _⟩
     case measure => simp [intOf]; omega
    ·have q2 : ((x[k].toNat : Int) != y[k].toNat) = true := by
      rw [bne_iff_ne]
      intro h
      exact he (UInt8.toNat_inj.1 b_37)
     have HE : Hid (¬ x = y) := fun h => he (by subst h; rfl)
     clear he
     go_wp2
     go_quiet (fail)
     go_wp2
     go_ret
     exact ⟨ret_bool (by simp [HE.out]), bel_drewN hb _⟩
   ·have HE : Hid (x = y) := by
     have h1 := HT.out
     rwa [List.take_of_length_le b_37, List.take_of_length_le (by have := HL.out; omega)] at h1
    go_wp2
    go_ret
    exact ⟨ret_bool (by simp [HE.out]), hb⟩
 ·have q1 : ((x.length : Int) != y.length) = true := by rw [bne_iff_ne]; omega
  have HE : Hid (¬ x = y) := fun h => hl (congrArg List.length h)
  go_enter Tryz.func70, Tryz.ntmps70
  go_wp2
  go_ret
  exact ⟨ret_bool (by simp [HE.out]), Below.refl _ _⟩
set_option maxHeartbeats 1000000 in
theorem C_spec_EqualBytes (w : World) (v1 v2 : Value) (x y : List UInt8) (h1 : (Ty.sl .byte).rd w [v1] x) (h2 : (Ty.sl .byte).rd w [v2] y) :
  Calls Tryz.prog 73 #[v1, v2] w (RetB w (decide (x = y))) := by
 obtain ⟨A1, c1, rfl, hc1, hm1, hn1⟩ := Ty.rd_sl h1
 obtain ⟨A2, c2, rfl, hc2, hm2, hn2⟩ := Ty.rd_sl h2
 have k1 := run_str_of_bytes (P := Tryz.prog) 22 9 5 Tryz.underlying22 Tryz.underlying5 Tryz.underlying9 h1
 have k2 := run_str_of_bytes (P := Tryz.prog) 22 9 5 Tryz.underlying22 Tryz.underlying5 Tryz.underlying9 h2
 go_enter Tryz.func73, Tryz.ntmps73
 go_wp2
 go_ret
 exact ⟨ret_bool (by (rw [Bool.eq_iff_iff]; simp)), Below.refl _ _⟩
def f_ValidData (x : tData.D) : Bool := validName x.1 && (decide (0 < x.1.length) && (decide (x.2.1.length ≤ 60) && (validName x.2.2.1 && (inR x.2.2.2.1 0 100000 && inR x.2.2.2.2 0 2147483646))))
set_option maxHeartbeats 1000000 in
theorem C_spec_ValidDataG (w : World) (cs1 : List Value) (x : tData.D) (h1 : tData.rd w cs1 x) :
  Calls Tryz.prog 65 #[.agg cs1.toArray] w (RetB w (f_ValidData x)) := by
 obtain ⟨A0, c0, A1, c1, A2, c2, rfl, g0, g1, g2, b3, b4⟩ := rd_Data h1
 obtain ⟨_, _, _, _, _, n0⟩ := Ty.rd_sl g0
 obtain ⟨_, _, _, _, _, n1⟩ := Ty.rd_sl g1
 obtain ⟨_, _, _, _, _, n2⟩ := Ty.rd_sl g2
 have hF : f_ValidData x = (validName x.1 && (decide (0 < x.1.length) && (decide (x.2.1.length ≤ 60) && (validName x.2.2.1 && (inR x.2.2.2.1 0 100000 && inR x.2.2.2.2 0 2147483646))))) := rfl
 generalize f_ValidData x = F at hF ⊢
 have HF := Lib.hid hF
 clear hF
 go_enter Tryz.func65, Tryz.ntmps65
 go_wp2_with fail
 refine (C_spec_ValidName _ _ _ (Ty.rd_below b_10 g0)).mono ?_
 rintro e w1 ⟨rfl, hb1⟩
 have hw1 : Below w.heap.size w w1 := bel_trans b_10 hb1
 obtain ⟨hc1, hf1⟩ := bcell hb1
 have z10 : w.heap.size < w1.heap.size := by have := hb1.size; simp only [World.size_alloc] at this; omega
 cases q0 : validName x.1
 ·rw [q0] at HF
  go_wp2
  go_ret
  exact ⟨ret_bool (by rw [HF.out]; rfl), hw1⟩
 rw [q0] at HF
 by_cases hl1 : 0 < x.1.length
 rotate_left
 ·have H1 := Lib.hid hl1
  go_wp2
  go_ret
  exact ⟨ret_bool (by rw [HF.out]; simp [H1.out]), hw1⟩
 have H1 := Lib.hid hl1
 by_cases hl2 : x.2.1.length ≤ 60
 rotate_left
 ·have H2 := Lib.hid hl2
  go_wp2
  go_ret
  exact ⟨ret_bool (by rw [HF.out]; simp [H2.out]), hw1⟩
 have H2 := Lib.hid hl2
 go_wp2_with fail
 refine (C_spec_ValidName _ _ _ (Ty.rd_below b_10 g2)).mono ?_
 rintro e w2 ⟨rfl, hb2⟩
 have hw2 : Below w.heap.size w w2 := bel_trans b_10 hb2
 obtain ⟨hc2, hf2⟩ := bcell hb2
 have z20 : w.heap.size < w2.heap.size := by have := hb2.size; omega
 cases q3 : validName x.2.2.1
 ·rw [q3] at HF
  go_wp2
  go_ret
  exact ⟨ret_bool (by rw [HF.out]; simp), hw2⟩
 rw [q3] at HF
 go_wp2_with fail
 refine (C_spec_l1In _ _ _ _).mono ?_
 rintro e w3 ⟨rfl, rfl⟩
 cases q4 : inR x.2.2.2.1 0 100000
 ·rw [q4] at HF
  go_wp2
  go_ret
  exact ⟨ret_bool (by rw [HF.out]; simp), hw2⟩
 rw [q4] at HF
 go_wp2_with fail
 refine (C_spec_l1In _ _ _ _).mono ?_
 rintro e w4 ⟨rfl, rfl⟩
 go_wp2
 go_ret
 exact ⟨ret_bool (by rw [HF.out]; simp [H1.out, H2.out]), hw2⟩
theorem C_spec_ValidData (w : World) (cs1 : List Value) (x : tData.D) (h1 : tData.rd w cs1 x) (s0 : Ty.bulk tData x ≤ 1048576) :
  Calls Tryz.prog 65 #[.agg cs1.toArray] w (RetB w (f_ValidData x)) := C_spec_ValidDataG w cs1 x h1
set_option maxHeartbeats 1000000 in
theorem C_impl_ValidDataG (w : World) (cs1 : List Value) (x : tData.D) (h1 : tData.rd w cs1 x) :
  Calls Tryz.prog 53 #[.agg cs1.toArray] w (RetB w (f_ValidData x)) := by
 obtain ⟨A0, c0, A1, c1, A2, c2, rfl, g0, g1, g2, b3, b4⟩ := rd_Data h1
 obtain ⟨_, _, _, _, _, n0⟩ := Ty.rd_sl g0
 obtain ⟨_, _, _, _, _, n1⟩ := Ty.rd_sl g1
 obtain ⟨_, _, _, _, _, n2⟩ := Ty.rd_sl g2
 have hF : f_ValidData x = (validName x.1 && (decide (0 < x.1.length) && (decide (x.2.1.length ≤ 60) && (validName x.2.2.1 && (inR x.2.2.2.1 0 100000 && inR x.2.2.2.2 0 2147483646))))) := rfl
 generalize f_ValidData x = F at hF ⊢
 have HF := Lib.hid hF
 clear hF
 go_enter Tryz.func53, Tryz.ntmps53
 go_wp2_with fail
 refine (C_impl_ValidName _ _ _ (Ty.rd_below b_10 g0)).mono ?_
 rintro e w1 ⟨rfl, hb1⟩
 have hw1 : Below w.heap.size w w1 := bel_trans b_10 hb1
 obtain ⟨hc1, hf1⟩ := bcell hb1
 have z10 : w.heap.size < w1.heap.size := by have := hb1.size; simp only [World.size_alloc] at this; omega
 cases q0 : validName x.1
 ·rw [q0] at HF
  go_wp2
  go_ret
  exact ⟨ret_bool (by rw [HF.out]; rfl), hw1⟩
 rw [q0] at HF
 by_cases hl1 : 0 < x.1.length
 rotate_left
 ·have H1 := Lib.hid hl1
  go_wp2
  go_ret
  exact ⟨ret_bool (by rw [HF.out]; simp [H1.out]), hw1⟩
 have H1 := Lib.hid hl1
 by_cases hl2 : x.2.1.length ≤ 60
 rotate_left
 ·have H2 := Lib.hid hl2
  go_wp2
  go_ret
  exact ⟨ret_bool (by rw [HF.out]; simp [H2.out]), hw1⟩
 have H2 := Lib.hid hl2
 go_wp2_with fail
 refine (C_impl_ValidName _ _ _ (Ty.rd_below b_10 g2)).mono ?_
 rintro e w2 ⟨rfl, hb2⟩
 have hw2 : Below w.heap.size w w2 := bel_trans b_10 hb2
 obtain ⟨hc2, hf2⟩ := bcell hb2
 have z20 : w.heap.size < w2.heap.size := by have := hb2.size; omega
 cases q3 : validName x.2.2.1
 ·rw [q3] at HF
  go_wp2
  go_ret
  exact ⟨ret_bool (by rw [HF.out]; simp), hw2⟩
 rw [q3] at HF
 go_wp2_with fail
 refine (C_impl_InRange _ _ _ _).mono ?_
 rintro e w3 ⟨rfl, rfl⟩
 cases q4 : inR x.2.2.2.1 0 100000
 ·rw [q4] at HF
  go_wp2
  go_ret
  exact ⟨ret_bool (by rw [HF.out]; simp), hw2⟩
 rw [q4] at HF
 go_wp2_with fail
 refine (C_impl_InRange _ _ _ _).mono ?_
 rintro e w4 ⟨rfl, rfl⟩
 go_wp2
 go_ret
 exact ⟨ret_bool (by rw [HF.out]; simp [H1.out, H2.out]), hw2⟩
theorem C_impl_ValidData (w : World) (cs1 : List Value) (x : tData.D) (h1 : tData.rd w cs1 x) (s0 : Ty.bulk tData x ≤ 1048576) :
  Calls Tryz.prog 53 #[.agg cs1.toArray] w (RetB w (f_ValidData x)) := C_impl_ValidDataG w cs1 x h1
def sameName (n : List (List UInt8)) (k : Ty.D tKey) : Bool := decide (k.1 = n)
def f_SecretOf (x : List (Ty.D tKey)) (n : List (List UInt8)) : Int := match x.find? (sameName n) with | some k => k.2 | none => 0
theorem find_hit {α : Type} (p : α → Bool) (x : List α) {k : Nat} (h : k < x.length) (ht : (x.take k).any p = false) (hp : p x[k] = true) : x.find? p = some x[k] := by
 rw [List.find?_eq_some_iff_getElem]
 exact ⟨hp, k, h, rfl, fun j hj => by
  have := List.any_eq_false.1 ht ((x.take k)[j]'(by rw [List.length_take]; omega)) (List.getElem_mem _)
  rw [List.getElem_take] at this; simpa using this⟩
theorem find_miss {α : Type} (p : α → Bool) (x : List α) (ht : x.any p = false) : x.find? p = none := by
 rw [List.find?_eq_none]; exact fun a ha => by simpa using List.any_eq_false.1 ht a ha
theorem find_ixf {α : Type} (p : α → Bool) (x : List α) : (ixf p x = -1 ∧ x.find? p = none) ∨ ∃ (k : Nat) (h : k < x.length), ixf p x = k ∧ x.find? p = some x[k] := by
 unfold ixf
 cases hq : x.findIdx? p with
 | none => left; exact ⟨rfl, by rw [List.findIdx?_eq_none_iff] at hq; rw [List.find?_eq_none]; simpa using hq⟩
 | some k =>
  right
  rw [List.findIdx?_eq_some_iff_getElem] at hq
  obtain ⟨h, hp, hj⟩ := hq
  exact ⟨k, h, rfl, by rw [List.find?_eq_some_iff_getElem]; exact ⟨hp, k, h, rfl, fun j hj' => by simpa using hj j hj'⟩⟩
set_option maxHeartbeats 1000000 in
theorem C_spec_l9Find (w : World) (v : Value) (x : List (Ty.D tKey)) (cs2 : List Value) (n : List (List UInt8)) (h1 : (Ty.sl tKey).rd w [v] x) (h2 : (Ty.sl .str).rd w cs2 n) :
  Calls Tryz.prog 80 #[v, .agg cs2.toArray] w (RetI w (ixf (sameName n) x)) := by
 obtain ⟨A1, c1, rfl, hc1, hm1, hn1⟩ := Ty.rd_sl h1
 obtain ⟨A2, c2, rfl⟩ := Ty.rd_slv h2
 go_enter Tryz.func80, Tryz.ntmps80
 go_wp2
 go_loopw [5] (fun i wr => ∃ k : Nat, k ≤ x.length ∧ i = .int .i64 k ∧ (x.take k).any (sameName n) = false ∧ Below (w.alloc (.cells #[.slice A2 n.length c2] 32)).heap.size (w.alloc (.cells #[.slice A2 n.length c2] 32)) wr) (fun i _ => x.length - (intOf i).toNat)
 case atStart => exact ⟨0, by omega, rfl, by first | rfl | simp, Below.refl _ _⟩
 case round =>
  obtain ⟨k, hk, rfl, ht, hb⟩ := hrel
  have hw : Below w.heap.size w wr := bel_trans b_10 hb
  obtain ⟨hc, hf⟩ := bcell hb
  have HT := Lib.hid ht
  clear ht
  by_cases hlt : k < x.length
  ·have HS := Lib.hid (any_take_succ (sameName n) x hlt)
   obtain ⟨b, o, ds, rfl, hl, hcell, hrd⟩ := Ty.rd_at (Ty.rd_below hw h1) hlt
   obtain ⟨Aa0, ca0, rfl, sag0, sag1⟩ := rd_Key hrd
   have e0 : wr.cell? ⟨b, o + k * 2, none⟩ = some (.slice Aa0 (List.length x[k].1) ca0) := by simpa [Ty.sz] using hcell 0 b_36
   clear hcell hl
   go_wp2_with fail
   set_option maxRecDepth 100000 in go_still_tail 6, b_35
   go_wp2_with fail
   refine (C_spec_EqualNames _ _ _ _ _ (Ty.rd_below b_10 sag0) (Ty.rd_below (bel_drew hw) h2)).mono ?_
   rintro e w1 ⟨rfl, hb1⟩
   have hb2 := bel_trans (bel_drew hb) hb1
   have hw1 : Below w.heap.size w w1 := bel_trans b_10 hb2
   cases hq : decide (x[k].1 = n)
   ·have HQ := Lib.hid hq
    go_wp2
    go_roundw
    case rel => exact ⟨k + 1, by omega, by go_num, by rw [HS.out, HT.out, show sameName n x[k] = false from HQ.out]; rfl, hb2⟩
    case measure => simp [intOf]; omega
   ·have HQ := Lib.hid hq
    go_wp2
    go_ret
    exact ⟨ret_int (ixf_hit (sameName n) x hlt HT.out HQ.out).symm, hw1⟩
  ·have HE : Hid (x.any (sameName n) = false) := by have := HT.out; rwa [List.take_of_length_le b_37] at this
   go_wp2
   go_ret
   exact ⟨ret_int (ixf_miss (sameName n) x HE.out).symm, hw⟩
set_option maxHeartbeats 1000000 in
theorem C_spec_SecretOf (w : World) (v : Value) (x : List (Ty.D tKey)) (cs2 : List Value) (n : List (List UInt8)) (h1 : (Ty.sl tKey).rd w [v] x) (h2 : (Ty.sl .str).rd w cs2 n) (s0 : Ty.bulk (.sl tKey) x ≤ 1048576) (s1 : Ty.bulk (.sl .str) n ≤ 1048576) :
  Calls Tryz.prog 48 #[v, .agg cs2.toArray] w (RetI w (f_SecretOf x n)) := by
 obtain ⟨A1, c1, rfl, hc1, hm1, hn1⟩ := Ty.rd_sl h1
 obtain ⟨A2, c2, rfl⟩ := Ty.rd_slv h2
 go_enter Tryz.func48, Tryz.ntmps48
 go_wp2_with fail
 refine (C_spec_l9Find _ _ _ _ _ (Ty.rd_below b_10 h1) (Ty.rd_below b_10 h2)).mono ?_
 rintro e w1 ⟨rfl, hb1⟩
 have hw1 : Below w.heap.size w w1 := bel_trans b_10 hb1
 rcases find_ixf (sameName n) x with ⟨hi, hf⟩ | ⟨k, hk, hi, hf⟩
 ·rw [hi]
  have HF := Lib.hid hf
  clear hi hf
  go_wp2
  go_ret
  exact ⟨ret_int (by unfold f_SecretOf; rw [HF.out]), hw1⟩
 ·rw [hi]
  have HF := Lib.hid hf
  clear hi hf
  obtain ⟨b, o, ds, rfl, hl, hcell, hrd⟩ := Ty.rd_at (Ty.rd_below hw1 h1) hk
  obtain ⟨Aa0, ca0, rfl, sag0, sag1⟩ := rd_Key hrd
  have e1 : w1.cell? ⟨b, o + k * 2 + 1, none⟩ = some (.int .i64 x[k].2) := by simpa [Ty.sz] using hcell 1 b_36
  clear hcell hl
  go_wp2
  go_ret
  exact ⟨ret_int (by unfold f_SecretOf; rw [HF.out]), hw1⟩
set_option maxHeartbeats 1000000 in
theorem C_impl_SecretOf (w : World) (v : Value) (x : List (Ty.D tKey)) (cs2 : List Value) (n : List (List UInt8)) (h1 : (Ty.sl tKey).rd w [v] x) (h2 : (Ty.sl .str).rd w cs2 n) (s0 : Ty.bulk (.sl tKey) x ≤ 1048576) (s1 : Ty.bulk (.sl .str) n ≤ 1048576) :
  Calls Tryz.prog 47 #[v, .agg cs2.toArray] w (RetI w (f_SecretOf x n)) := by
 obtain ⟨A1, c1, rfl, hc1, hm1, hn1⟩ := Ty.rd_sl h1
 obtain ⟨A2, c2, rfl⟩ := Ty.rd_slv h2
 go_enter Tryz.func47, Tryz.ntmps47
 go_wp2
 go_loopw [9] (fun i wr => ∃ k : Nat, k ≤ x.length ∧ i = .int .i64 k ∧ (x.take k).any (sameName n) = false ∧ Below (w.alloc (.cells #[.slice A2 n.length c2] 32)).heap.size (w.alloc (.cells #[.slice A2 n.length c2] 32)) wr) (fun i _ => x.length - (intOf i).toNat)
 case atStart => exact ⟨0, by omega, rfl, by first | rfl | simp, Below.refl _ _⟩
 case round =>
  obtain ⟨k, hk, rfl, ht, hb⟩ := hrel
  have hw : Below w.heap.size w wr := bel_trans b_10 hb
  obtain ⟨hc, hf⟩ := bcell hb
  have zr : w.heap.size < wr.heap.size := by have := hb.size; simp only [World.size_alloc] at this; omega
  have HT := Lib.hid ht
  clear ht
  by_cases hlt : k < x.length
  ·have HS := Lib.hid (any_take_succ (sameName n) x hlt)
   obtain ⟨b, o, ds, rfl, hl, hcell, hrd⟩ := Ty.rd_at (Ty.rd_below hw h1) hlt
   obtain ⟨Aa0, ca0, rfl, sag0, sag1⟩ := rd_Key hrd
   have e0 : wr.cell? ⟨b, o + k * 2, none⟩ = some (.slice Aa0 (List.length x[k].1) ca0) := by simpa [Ty.sz] using hcell 0 b_36
   have e1 : wr.cell? ⟨b, o + k * 2 + 1, none⟩ = some (.int .i64 x[k].2) := by simpa [Ty.sz] using hcell 1 b_36
   clear hcell hl
   go_wp2_with fail
   refine (C_impl_EqualNames _ _ _ _ _ (Ty.rd_below b_10 sag0) (Ty.rd_below (bel_trans hw b_10) h2)).mono ?_
   rintro e w1 ⟨rfl, hb1⟩
   have hb1' : Below wr.heap.size wr w1 := bel_trans b_10 hb1
   have hb2 := bel_trans hb hb1'
   have hw1 : Below w.heap.size w w1 := bel_trans b_10 hb2
   obtain ⟨hc1, hf1⟩ := bcell hb1
   have z1 : wr.heap.size < w1.heap.size := by have := hb1.size; simp only [World.size_alloc, World.size_setCell] at this; omega
   cases hq : decide (x[k].1 = n)
   ·have HQ := Lib.hid hq
    go_wp2
    go_roundw
    case rel => exact ⟨k + 1, by omega, by go_num, by rw [HS.out, HT.out, show sameName n x[k] = false from HQ.out]; rfl, hb2⟩
    case measure => simp [intOf]; omega
   ·have HQ := Lib.hid hq
    go_wp2
    go_ret
    exact ⟨ret_int (by unfold f_SecretOf; rw [find_hit (sameName n) x hlt HT.out HQ.out]), hw1⟩
  ·have HE : Hid (x.any (sameName n) = false) := by have := HT.out; rwa [List.take_of_length_le b_37] at this
   go_wp2
   go_ret
   exact ⟨ret_int (by unfold f_SecretOf; rw [find_miss (sameName n) x HE.out]), hw⟩
theorem secret_bd {w : World} {v : Value} {x : List (Ty.D tKey)} (n : List (List UInt8)) (h : (Ty.sl tKey).rd w [v] x) : -9223372036854775808 ≤ f_SecretOf x n ∧ f_SecretOf x n ≤ 9223372036854775807 := by
 obtain ⟨A, c, rfl, hc, hm, hn⟩ := Ty.rd_sl h
 unfold f_SecretOf
 rcases find_ixf (sameName n) x with ⟨_, hf⟩ | ⟨k, hk, _, hf⟩
 ·rw [hf]; exact ⟨by decide, by decide⟩
 ·rw [hf]
  obtain ⟨b, o, ds, _, hl, hcell, hrd⟩ := Ty.rd_at h hk
  obtain ⟨_, _, _, _, hb⟩ := rd_Key hrd
  exact hb
def f_KeyDigest (x : List (Ty.D tKey)) (n : List (List UInt8)) : List UInt8 := if f_SecretOf x n = 0 then [] else f_AppendVarint [] (digest [f_SecretOf x n])
theorem rd_empty (w : World) {e : Ty} (A : Option Addr) : (Ty.sl e).rd w [.slice A 0 0] [] := ⟨A, 0, rfl, Nat.le_refl _, ⟨Nat.zero_le _, fun _ => rfl⟩, by simp, fun h => absurd h b_38⟩
set_option maxHeartbeats 1000000 in
theorem C_spec_KeyDigest (w : World) (v : Value) (x : List (Ty.D tKey)) (cs2 : List Value) (n : List (List UInt8)) (h1 : (Ty.sl tKey).rd w [v] x) (h2 : (Ty.sl .str).rd w cs2 n) (s0 : Ty.bulk (.sl tKey) x ≤ 1048576) (s1 : Ty.bulk (.sl .str) n ≤ 1048576) :
  Calls Tryz.prog 28 #[v, .agg cs2.toArray] w (RetSl w .byte (f_KeyDigest x n)) := by
 obtain ⟨A2, c2, rfl⟩ := Ty.rd_slv h2
 have hbd := secret_bd n h1
 go_enter Tryz.func28, Tryz.ntmps28
 go_wp2_with fail
 refine (C_spec_SecretOf _ _ _ _ _ (Ty.rd_below b_10 h1) (Ty.rd_below b_10 h2) s0 s1).mono ?_
 rintro e w1 ⟨rfl, hb1⟩
 have hw1 : Below w.heap.size w w1 := bel_trans b_10 hb1
 have HF := Lib.hid (show f_KeyDigest x n = if f_SecretOf x n = 0 then [] else f_AppendVarint [] (digest [f_SecretOf x n]) from rfl)
 generalize f_SecretOf x n = s at HF hbd ⊢
 by_cases hs : s = 0
 ·subst hs
  go_wp2
  go_ret
  have hr : Row flatB (w1.alloc (.cells #[] 5)) w.heap.size 5 (.slice (some ⟨w1.heap.size, 0, none⟩) 0 0) [] := Row.lit0 flatB w1 5 hw1.size
  rw [HF.out, if_pos trivial]
  exact RetRow.sl ⟨_, rfl, hr, b_10⟩
 ·have HS := Lib.hid hs
  have hrd := (Row.lit1 flatI (w1.alloc (.cells #[] 5)) 3 s (okI hbd.1 hbd.2) (Nat.le_refl _)).rd b_32
  rw [World.size_alloc] at hrd
  have HRD := Lib.hid hrd
  clear hrd
  go_wp2_with fail
  refine (C_spec_Digest _ _ [s] HRD.out).mono ?_
  rintro e w2 ⟨rfl, hb2⟩
  have hw2 : Below w.heap.size w w2 := bel_trans b_10 hb2
  have hd := digest_le [s]
  go_wp2_with fail
  refine (C_spec_AppendVarint _ _ [] _ (rd_empty _ _) b_38 b_37).mono ?_
  rintro e w3 ⟨v3, rfl, hr3, hb3⟩
  have hw3 : Below w.heap.size w w3 := bel_trans hw2 hb3
  have HR := Lib.hid (hr3.mono hw2.size)
  clear hr3
  go_wp2
  go_ret
  rw [HF.out, if_neg HS.out]
  exact RetRow.sl ⟨_, rfl, HR.out, hw3⟩
set_option maxHeartbeats 1000000 in
theorem C_impl_KeyDigest (w : World) (v : Value) (x : List (Ty.D tKey)) (cs2 : List Value) (n : List (List UInt8)) (h1 : (Ty.sl tKey).rd w [v] x) (h2 : (Ty.sl .str).rd w cs2 n) (s0 : Ty.bulk (.sl tKey) x ≤ 1048576) (s1 : Ty.bulk (.sl .str) n ≤ 1048576) :
  Calls Tryz.prog 27 #[v, .agg cs2.toArray] w (RetSl w .byte (f_KeyDigest x n)) := by
 obtain ⟨A2, c2, rfl⟩ := Ty.rd_slv h2
 have hbd := secret_bd n h1
 go_enter Tryz.func27, Tryz.ntmps27
 go_wp2_with fail
 refine (C_impl_SecretOf _ _ _ _ _ (Ty.rd_below b_10 h1) (Ty.rd_below b_10 h2) s0 s1).mono ?_
 rintro e w1 ⟨rfl, hb1⟩
 have hw1 : Below w.heap.size w w1 := bel_trans b_10 hb1
 have HF := Lib.hid (show f_KeyDigest x n = if f_SecretOf x n = 0 then [] else f_AppendVarint [] (digest [f_SecretOf x n]) from rfl)
 generalize f_SecretOf x n = s at HF hbd ⊢
 by_cases hs : s = 0
 ·subst hs
  go_wp2
  go_ret
  rw [HF.out, if_pos trivial]
  exact RetRow.sl (te := 5) (F := flatB) ⟨_, rfl, Row.nil _ _ _ _, hw1⟩
 ·have HS := Lib.hid hs
  go_wp2_with fail
  refine (C_impl_Digest _ _ [s] ((Row.lit1 flatI w1 3 s (okI hbd.1 hbd.2) (Nat.le_refl _)).rd b_32)).mono ?_
  rintro e w2 ⟨rfl, hb2⟩
  have hw2 : Below w.heap.size w w2 := bel_trans b_10 hb2
  have hd := digest_le [s]
  go_wp2_with fail
  refine (C_impl_AppendVarint _ _ [] _ (rd_empty _ _) b_38 b_37).mono ?_
  rintro e w3 ⟨v3, rfl, hr3, hb3⟩
  have hw3 : Below w.heap.size w w3 := bel_trans hw2 hb3
  have HR := Lib.hid (hr3.mono hw2.size)
  clear hr3
  go_wp2
  go_ret
  rw [HF.out, if_neg HS.out]
  exact RetRow.sl ⟨_, rfl, HR.out, hw3⟩
end Go.Proofs.YtldgbnlcnlfmeaaGreat
