/- Texts of this claim, merged by a program: Key Mac Vky Vcs. -/
import Derived.Test.YtldgbnlcnlfmeaaQcP
import Derived.Test.YtldgbnlcnlfmeaaQc0
import Derived.Test.YtldgbnlcnlfmeaaQc3
import Derived.Test.YtldgbnlcnlfmeaaQc1
import Derived.Deep.QuietTactic
import Derived.BigQuiet
import Derived.Test.YtldgbnlcnlfmeaaQc4
namespace Go.Proofs.Ytldgbnlcnlfmeaa
open Go.RowKit
set_option linter.unusedVariables false
set_option linter.unusedSimpArgs false
def f_ValidData (x : tData.D) : Bool := validName x.1 && (decide (0 < x.1.length) && (decide (x.2.1.length ≤ 60) && (validName x.2.2.1 && (inR x.2.2.2.1 0 100000 && inR x.2.2.2.2 0 2147483646))))
set_option maxHeartbeats 1000000 in
theorem C_spec_ValidDataG (w : World) (cs1 : List Value) (x : tData.D) (h1 : tData.rd w cs1 x) :
  Calls Try.prog 61 #[.agg cs1.toArray] w (RetB w (f_ValidData x)) := by
 obtain ⟨A0, c0, A1, c1, A2, c2, rfl, g0, g1, g2, b3, b4⟩ := rd_Data h1
 obtain ⟨_, _, _, _, _, n0⟩ := Ty.rd_sl g0
 obtain ⟨_, _, _, _, _, n1⟩ := Ty.rd_sl g1
 obtain ⟨_, _, _, _, _, n2⟩ := Ty.rd_sl g2
 have hF : f_ValidData x = (validName x.1 && (decide (0 < x.1.length) && (decide (x.2.1.length ≤ 60) && (validName x.2.2.1 && (inR x.2.2.2.1 0 100000 && inR x.2.2.2.2 0 2147483646))))) := rfl
 generalize f_ValidData x = F at hF ⊢
 have HF := Lib.hid hF
 clear hF
 go_enter Try.func61, Try.ntmps61
 go_wp2_with fail
 refine (C_spec_ValidName _ _ _ (Ty.rd_below b_6 g0)).mono ?_
 rintro e w1 ⟨rfl, hb1⟩
 have hw1 : Below w.heap.size w w1 := bel_trans b_6 hb1
 obtain ⟨hc1, hf1⟩ := bcell hb1
 have z10 : w.heap.size < w1.heap.size := by have := hb1.size; simp only [World.size_alloc] at this; omega
 cases q0 : validName x.1
 ·rw [q0] at HF
  go_wp2
  go_ret
  exact ⟨ret_bool (by rw [HF.out]; rfl), hw1⟩
 rw [q0] at HF
 by_cases hl1 : 0 < x.1.length
 rotate_left
 ·have H1 := Lib.hid hl1
  go_wp2
  go_ret
  exact ⟨ret_bool (by rw [HF.out]; simp [H1.out]), hw1⟩
 have H1 := Lib.hid hl1
 by_cases hl2 : x.2.1.length ≤ 60
 rotate_left
 ·have H2 := Lib.hid hl2
  go_wp2
  go_ret
  exact ⟨ret_bool (by rw [HF.out]; simp [H2.out]), hw1⟩
 have H2 := Lib.hid hl2
 go_wp2_with fail
 refine (C_spec_ValidName _ _ _ (Ty.rd_below b_6 g2)).mono ?_
 rintro e w2 ⟨rfl, hb2⟩
 have hw2 : Below w.heap.size w w2 := bel_trans b_6 hb2
 obtain ⟨hc2, hf2⟩ := bcell hb2
 have z20 : w.heap.size < w2.heap.size := by have := hb2.size; omega
 cases q3 : validName x.2.2.1
 ·rw [q3] at HF
  go_wp2
  go_ret
  exact ⟨ret_bool (by rw [HF.out]; simp), hw2⟩
 rw [q3] at HF
 go_wp2_with fail
 refine (C_spec_l1In _ _ _ _).mono ?_
 rintro e w3 ⟨rfl, rfl⟩
 cases q4 : inR x.2.2.2.1 0 100000
 ·rw [q4] at HF
  go_wp2
  go_ret
  exact ⟨ret_bool (by rw [HF.out]; simp), hw2⟩
 rw [q4] at HF
 go_wp2_with fail
 refine (C_spec_l1In _ _ _ _).mono ?_
 rintro e w4 ⟨rfl, rfl⟩
 go_wp2
 go_ret
 exact ⟨ret_bool (by rw [HF.out]; simp [H1.out, H2.out]), hw2⟩
theorem C_spec_ValidData (w : World) (cs1 : List Value) (x : tData.D) (h1 : tData.rd w cs1 x) (s0 : Ty.bulk tData x ≤ 1048576) :
  Calls Try.prog 61 #[.agg cs1.toArray] w (RetB w (f_ValidData x)) := C_spec_ValidDataG w cs1 x h1
set_option maxHeartbeats 1000000 in
theorem C_impl_ValidDataG (w : World) (cs1 : List Value) (x : tData.D) (h1 : tData.rd w cs1 x) :
  Calls Try.prog 42 #[.agg cs1.toArray] w (RetB w (f_ValidData x)) := by
 obtain ⟨A0, c0, A1, c1, A2, c2, rfl, g0, g1, g2, b3, b4⟩ := rd_Data h1
 obtain ⟨_, _, _, _, _, n0⟩ := Ty.rd_sl g0
 obtain ⟨_, _, _, _, _, n1⟩ := Ty.rd_sl g1
 obtain ⟨_, _, _, _, _, n2⟩ := Ty.rd_sl g2
 have hF : f_ValidData x = (validName x.1 && (decide (0 < x.1.length) && (decide (x.2.1.length ≤ 60) && (validName x.2.2.1 && (inR x.2.2.2.1 0 100000 && inR x.2.2.2.2 0 2147483646))))) := rfl
 generalize f_ValidData x = F at hF ⊢
 have HF := Lib.hid hF
 clear hF
 go_enter Try.func42, Try.ntmps42
 go_wp2_with fail
 refine (C_impl_ValidName _ _ _ (Ty.rd_below b_6 g0)).mono ?_
 rintro e w1 ⟨rfl, hb1⟩
 have hw1 : Below w.heap.size w w1 := bel_trans b_6 hb1
 obtain ⟨hc1, hf1⟩ := bcell hb1
 have z10 : w.heap.size < w1.heap.size := by have := hb1.size; simp only [World.size_alloc] at this; omega
 cases q0 : validName x.1
 ·rw [q0] at HF
  go_wp2
  go_ret
  exact ⟨ret_bool (by rw [HF.out]; rfl), hw1⟩
 rw [q0] at HF
 by_cases hl1 : 0 < x.1.length
 rotate_left
 ·have H1 := Lib.hid hl1
  go_wp2
  go_ret
  exact ⟨ret_bool (by rw [HF.out]; simp [H1.out]), hw1⟩
 have H1 := Lib.hid hl1
 by_cases hl2 : x.2.1.length ≤ 60
 rotate_left
 ·have H2 := Lib.hid hl2
  go_wp2
  go_ret
  exact ⟨ret_bool (by rw [HF.out]; simp [H2.out]), hw1⟩
 have H2 := Lib.hid hl2
 go_wp2_with fail
 refine (C_impl_ValidName _ _ _ (Ty.rd_below b_6 g2)).mono ?_
 rintro e w2 ⟨rfl, hb2⟩
 have hw2 : Below w.heap.size w w2 := bel_trans b_6 hb2
 obtain ⟨hc2, hf2⟩ := bcell hb2
 have z20 : w.heap.size < w2.heap.size := by have := hb2.size; omega
 cases q3 : validName x.2.2.1
 ·rw [q3] at HF
  go_wp2
  go_ret
  exact ⟨ret_bool (by rw [HF.out]; simp), hw2⟩
 rw [q3] at HF
 go_wp2_with fail
 refine (C_impl_InRange _ _ _ _).mono ?_
 rintro e w3 ⟨rfl, rfl⟩
 cases q4 : inR x.2.2.2.1 0 100000
 ·rw [q4] at HF
  go_wp2
  go_ret
  exact ⟨ret_bool (by rw [HF.out]; simp), hw2⟩
 rw [q4] at HF
 go_wp2_with fail
 refine (C_impl_InRange _ _ _ _).mono ?_
 rintro e w4 ⟨rfl, rfl⟩
 go_wp2
 go_ret
 exact ⟨ret_bool (by rw [HF.out]; simp [H1.out, H2.out]), hw2⟩
theorem C_impl_ValidData (w : World) (cs1 : List Value) (x : tData.D) (h1 : tData.rd w cs1 x) (s0 : Ty.bulk tData x ≤ 1048576) :
  Calls Try.prog 42 #[.agg cs1.toArray] w (RetB w (f_ValidData x)) := C_impl_ValidDataG w cs1 x h1
theorem find_hit {α : Type} (p : α → Bool) (x : List α) {k : Nat} (h : k < x.length) (ht : (x.take k).any p = false) (hp : p x[k] = true) : x.find? p = some x[k] := by
 rw [List.find?_eq_some_iff_getElem]
 exact ⟨hp, k, h, rfl, fun j hj => by
  have := List.any_eq_false.1 ht ((x.take k)[j]'(by rw [List.length_take]; omega)) (List.getElem_mem _)
  rw [List.getElem_take] at this; simpa using this⟩
theorem find_miss {α : Type} (p : α → Bool) (x : List α) (ht : x.any p = false) : x.find? p = none := by
 rw [List.find?_eq_none]; exact fun a ha => by simpa using List.any_eq_false.1 ht a ha
def mac (s : Int) (l : List Int) : Int := digest (s :: (l ++ [s]))
set_option maxHeartbeats 1000000 in
theorem C_spec_ComputeMAC (w : World) (v : Value) (s : Int) (x : List Int) (hs : -9223372036854775808 ≤ s ∧ s ≤ 9223372036854775807) (h : (Ty.sl .int).rd w [v] x) (hx : x.length ≤ 1099511627776) :
  Calls Try.prog 131 #[.int .i64 s, v] w (RetI w (mac s x)) := by
 obtain ⟨A, c, rfl, hc, hm, hn⟩ := Ty.rd_sl h
 have HS0 := Lib.hid (Row.lit1 flatI w 3 s (okI hs.1 hs.2) (Nat.le_refl _))
 go_enter Try.func131, Try.ntmps131
 set_option maxRecDepth 100000 in go_wp2_with (at_builtin; go_loud (refine wpList_append_row rfl _ _ 92 rfl flatI w.heap.size 3 infoI rfl Try.underlying92 _ _ [s] x rfl rfl HS0.out (Ty.rd_below b_6 h) ?_ ?_ ?_ ?_))
 case refine_1 => simp only [List.length_cons, List.length_nil]; omega
 case refine_2 => simp only [List.length_cons, List.length_nil]; unfold maxLen; omega
 case refine_3 => simp only [World.size_alloc]; omega
 intro v1 w1 hr1 hg1
 have hb1 : Below w.heap.size w w1 := bel_grown b_6 b_27 hg1 (fun g hg => by simp [Value.ownBlock] at hg; omega)
 have HR1 := Lib.hid hr1
 clear hr1
 have HS1 := Lib.hid (Row.lit1 flatI w1 3 s (okI hs.1 hs.2) (Nat.le_refl _))
 have hz1 := hb1.size
 set_option maxRecDepth 100000 in go_wp2_with (at_builtin; go_loud (refine wpList_append_row rfl _ _ 92 rfl flatI w.heap.size 3 infoI rfl Try.underlying92 _ _ ([s] ++ x) [s] rfl rfl (HR1.out.below b_6) (HS1.out.rd b_27) ?_ ?_ ?_ ?_))
 case refine_1 => simp only [List.length_append, List.length_cons, List.length_nil]; omega
 case refine_2 => simp only [List.length_append, List.length_cons, List.length_nil]; unfold maxLen; omega
 case refine_3 => simp only [World.size_alloc]; omega
 intro v2 w2 hr2 hg2
 have hb2 : Below w.heap.size w w2 := bel_grown (bel_alloc hb1 _) b_27 hg2 (fun g hg => (HR1.out.block g hg).1)
 have HR2 := Lib.hid hr2
 clear hr2
 go_wp2_with fail
 refine (C_spec_Digest _ _ (s :: (x ++ [s])) (HR2.out.rd hb2.size)).mono ?_
 rintro e w3 ⟨rfl, hb3⟩
 have hw3 : Below w.heap.size w w3 := bel_trans hb2 hb3
 go_wp2
 go_ret
 exact ⟨rfl, hw3⟩
theorem rangeAll_succ (p : Nat → Bool) (k : Nat) : (List.range (k + 1)).all p = ((List.range k).all p && p k) := by rw [List.range_succ, List.all_append]; simp
theorem Ty.rd_take {w : World} {e : Ty} {A : Option Addr} {n c : Nat} {x : List e.D} (h : (Ty.sl e).rd w [.slice A n c] x) {k : Nat} (hk : k ≤ x.length) : (Ty.sl e).rd w [.slice A k c] (x.take k) := by
 obtain ⟨A', c', h1, h2, h3, h4, h5⟩ := h
 injection h1 with h1 _
 injection h1 with h1 hn1 h6
 subst h1; subst h6
 have hl : (x.take k).length = k := by rw [List.length_take]; omega
 have h2' : x.length ≤ c := h2
 have h4' : x.length ≤ 9223372036854775807 := h4
 refine ⟨A, c, by rw [show List.length (x.take k) = k from hl], by show (x.take k).length ≤ c; omega, h3, by show (x.take k).length ≤ _; omega, fun hn => ?_⟩
 have hn' : 0 < (x.take k).length := hn
 obtain ⟨b, o, hA, hc⟩ := h5 (by show 0 < x.length; omega)
 refine ⟨b, o, hA, fun i hi => ?_⟩
 have hi' : i < k := by have : i < (x.take k).length := hi; omega
 obtain ⟨ds, g1, g2, g3⟩ := hc i b_34
 exact ⟨ds, g1, g2, by rw [List.getElem_take]; exact g3⟩
def entName (n : List (List UInt8)) (e : Ty.D tCacheEntry) : Bool := decide (e.1.1 = n)
def entAt (l : List (Ty.D tCacheEntry)) (i : Nat) (e : Ty.D tCacheEntry) : Bool := f_ValidData e.1 && !(l.take i).any (entName e.1.1)
def entP (l : List (Ty.D tCacheEntry)) (i : Nat) : Bool := match l[i]? with | some e => entAt l i e | none => true
theorem entP_at {l : List (Ty.D tCacheEntry)} {i : Nat} (h : i < l.length) : entP l i = entAt l i l[i] := by unfold entP; rw [List.getElem?_eq_getElem h]
def f_ValidContentStore (x : Ty.D tContentStore) : Bool := (inR x.1 0 8 && decide ((List.length x.2 : Int) ≤ x.1)) && (List.range (List.length x.2)).all (entP x.2)
set_option maxRecDepth 100000 in
set_option maxHeartbeats 1000000 in
theorem C_spec_l12Find (w : World) (v : Value) (x : List (Ty.D tCacheEntry)) (cs2 : List Value) (n : List (List UInt8)) (h1 : (Ty.sl tCacheEntry).rd w [v] x) (h2 : (Ty.sl .str).rd w cs2 n) :
  Calls Try.prog 104 #[v, .agg cs2.toArray] w (RetI w (ixf (entName n) x)) := by
 obtain ⟨A1, c1, rfl, hc1, hm1, hn1⟩ := Ty.rd_sl h1
 obtain ⟨An0, cn0, rfl⟩ := Ty.rd_slv h2
 have kb0_0 : (w.alloc (.cells #[.slice An0 (List.length n) cn0] 27)).cell? ⟨w.heap.size, 0, none⟩ = some (.slice An0 (List.length n) cn0) := (cell_new w _ _ 0 b_24)
 have hvb : Below w.heap.size w (w.alloc (.cells #[.slice An0 (List.length n) cn0] 27)) := b_6
 have zb0 := Lib.hid (show (w.alloc (.cells #[.slice An0 (List.length n) cn0] 27)).heap.size = w.heap.size + 1 from by simp only [World.size_alloc])
 have zb : w.heap.size < (w.alloc (.cells #[.slice An0 (List.length n) cn0] 27)).heap.size := by simp only [World.size_alloc]; omega
 go_enter Try.func104, Try.ntmps104
 go_wp2
 generalize (w.alloc (.cells #[.slice An0 (List.length n) cn0] 27)) = WX at kb0_0 hvb zb zb0 ⊢
 have HC : Hid (∀ V, Below WX.heap.size WX V → V.cell? ⟨w.heap.size, 0, none⟩ = some (.slice An0 (List.length n) cn0)) := fun V hW => (hW.cell (p := ⟨w.heap.size, 0, none⟩) b_30).trans kb0_0
 clear kb0_0
 go_loopw [5] (fun i wr => ∃ k : Nat, k ≤ x.length ∧ i = .int .i64 k ∧ (x.take k).any (entName n) = false ∧ Below WX.heap.size WX wr) (fun i _ => x.length - (intOf i).toNat)
 case atStart => exact ⟨0, by omega, rfl, by first | rfl | simp, Below.refl _ _⟩
 case round =>
  obtain ⟨k, hk, rfl, ht, hb⟩ := hrel
  have hw : Below w.heap.size w wr := bel_trans hvb hb
  have HT := Lib.hid ht
  clear ht
  have j0 := HC.out _ (hb)
  have zw0 : w.heap.size < wr.heap.size := by have := hb.size; omega
  by_cases hlt : k < x.length
  ·have HS := Lib.hid (any_take_succ (entName n) x hlt)
   obtain ⟨b, o, dse, rfl, hle, hcelle, hrde⟩ := Ty.rd_at (Ty.rd_below hw h1) hlt
   have hrde' := hrde
   obtain ⟨Ae00, ce00, Ae01, ce01, Ae02, ce02, rfl, eg0, eg1⟩ := rd_CacheEntry hrde
   have e0 : wr.cell? ⟨b, o + k * 6, none⟩ = some (.slice Ae00 (List.length x[k].1.1) ce00) := by simpa [Ty.sz] using hcelle 0 b_33
   have e1 : wr.cell? ⟨b, o + k * 6 + 1, none⟩ = some (.slice Ae01 (List.length x[k].1.2.1) ce01) := by simpa [Ty.sz] using hcelle 1 b_33
   have e2 : wr.cell? ⟨b, o + k * 6 + 2, none⟩ = some (.slice Ae02 (List.length x[k].1.2.2.1) ce02) := by simpa [Ty.sz] using hcelle 2 b_33
   have e3 : wr.cell? ⟨b, o + k * 6 + 3, none⟩ = some (.int .i64 x[k].1.2.2.2.1) := by simpa [Ty.sz] using hcelle 3 b_33
   have e4 : wr.cell? ⟨b, o + k * 6 + 4, none⟩ = some (.int .i64 x[k].1.2.2.2.2) := by simpa [Ty.sz] using hcelle 4 b_33
   have e5 : wr.cell? ⟨b, o + k * 6 + 5, none⟩ = some (.int .i64 x[k].2) := by simpa [Ty.sz] using hcelle 5 b_33
   clear hcelle hle
   have hng : Ty.rd wr (.sl .str) [.slice Ae00 (List.length x[k].1.1) ce00] x[k].1.1 := rd_pr_head eg0
   go_wp2_with fail
   set_option maxRecDepth 100000 in go_still_tail 7, b_31
   go_wp2_with fail
   refine (C_spec_EqualNames _ _ _ _ _ (Ty.rd_below (bel_drew (Below.refl _ _)) hng) (Ty.rd_below (bel_drew hw) h2)).mono ?_
   rintro e w1 ⟨rfl, hb1⟩
   have hb2 := bel_trans (bel_drew hb) hb1
   have hw1 : Below w.heap.size w w1 := bel_trans hvb hb2
   cases hq : decide (x[k].1.1 = n)
   ·have HQ := Lib.hid hq
    go_wp2
    go_roundw
    case rel => exact ⟨k + 1, by omega, by go_num, by rw [HS.out, HT.out, show entName n x[k] = false from HQ.out]; rfl, hb2⟩
    case measure => simp [intOf]; omega
   ·have HQ := Lib.hid hq
    go_wp2
    go_ret
    exact ⟨ret_int (ixf_hit (entName n) x hlt HT.out HQ.out).symm, hw1⟩
  ·have HE : Hid (x.any (entName n) = false) := by have := HT.out; rwa [List.take_of_length_le b_34] at this
   go_wp2
   go_ret
   exact ⟨ret_int (ixf_miss (entName n) x HE.out).symm, hw⟩
set_option maxHeartbeats 1000000 in
theorem C_impl_ValidContentStore1 (W : World) (ds : List Value) (d : Ty.D tCacheEntry) (n : List (List UInt8)) (A : Option Addr) (c bo : Nat) (hx : Ty.rd W tCacheEntry ds d) (ko : W.cell? ⟨bo, 0, none⟩ = some (.slice A (List.length n) c)) (hn : (Ty.sl .str).rd W [.slice A (List.length n) c] n) :
  Calls Try.prog 112 #[.agg ds.toArray, .pointer (some ⟨bo, 0, none⟩)] W (RetB W (entName n d)) := by
 obtain ⟨Ad00, cd00, Ad01, cd01, Ad02, cd02, rfl, dg0, dg1⟩ := rd_CacheEntry hx
 have lo : bo < W.heap.size := World.block_lt_of_cell? W _ ko
 have hng : Ty.rd W (.sl .str) [.slice Ad00 (List.length d.1.1) cd00] d.1.1 := rd_pr_head dg0
 go_enter Try.func112, Try.ntmps112
 go_wp2_with fail
 refine (C_impl_EqualNames _ _ _ _ _ (Ty.rd_below b_6 hng) (Ty.rd_below b_6 hn)).mono ?_
 rintro e w1 ⟨rfl, hb1⟩
 go_wp2
 go_ret
 exact ⟨rfl, bel_trans b_6 hb1⟩
set_option maxRecDepth 100000 in
set_option maxHeartbeats 2000000 in
theorem C_impl_ValidContentStore (w : World) (cs : List Value) (x : Ty.D tContentStore) (h : Ty.rd w tContentStore cs x) (s0 : Ty.bulk tContentStore x ≤ 1048576) :
  Calls Try.prog 40 #[.agg cs.toArray] w (RetB w (f_ValidContentStore x)) := by
 obtain ⟨Ax1, cx1, rfl, xg0, xg1⟩ := rd_ContentStore h
 have s0e := store_bulk' s0
 have hxl := Ty.bulk_len s0e
 obtain ⟨_, _, _, m7, _, m9⟩ := Ty.rd_sl xg1
 have hF : f_ValidContentStore x = ((inR x.1 0 8 && decide ((List.length x.2 : Int) ≤ x.1)) && (List.range (List.length x.2)).all (entP x.2)) := rfl
 generalize f_ValidContentStore x = F at hF ⊢
 have HF := Lib.hid hF
 clear hF
 have kb0_0 : (w.alloc (.cells #[.int .i64 x.1, .slice Ax1 (List.length x.2) cx1] 55)).cell? ⟨w.heap.size, 0, none⟩ = some (.int .i64 x.1) := (cell_new w _ _ 0 b_24)
 have kb0_1 : (w.alloc (.cells #[.int .i64 x.1, .slice Ax1 (List.length x.2) cx1] 55)).cell? ⟨w.heap.size, 1, none⟩ = some (.slice Ax1 (List.length x.2) cx1) := (cell_new w _ _ 1 b_24)
 have hvb : Below w.heap.size w (w.alloc (.cells #[.int .i64 x.1, .slice Ax1 (List.length x.2) cx1] 55)) := b_6
 have zb0 := Lib.hid (show (w.alloc (.cells #[.int .i64 x.1, .slice Ax1 (List.length x.2) cx1] 55)).heap.size = w.heap.size + 1 from by simp only [World.size_alloc])
 have zb : w.heap.size < (w.alloc (.cells #[.int .i64 x.1, .slice Ax1 (List.length x.2) cx1] 55)).heap.size := by simp only [World.size_alloc]; omega
 have hmf := hmf_ (P := Try.prog)
 cases q0 : inR x.1 0 8
 ·have HZ := Lib.hid (show F = false from by rw [HF.out, q0]; rfl)
  go_enter Try.func40, Try.ntmps40
  go_wp2_with fail
  generalize (w.alloc (.cells #[.int .i64 x.1, .slice Ax1 (List.length x.2) cx1] 55)) = WX at kb0_0 kb0_1 hvb zb zb0 ⊢
  have HC : Hid (∀ V, Below WX.heap.size WX V → V.cell? ⟨w.heap.size, 0, none⟩ = some (.int .i64 x.1) ∧ V.cell? ⟨w.heap.size, 1, none⟩ = some (.slice Ax1 (List.length x.2) cx1)) := fun V hW => ⟨(hW.cell (p := ⟨w.heap.size, 0, none⟩) b_30).trans kb0_0, (hW.cell (p := ⟨w.heap.size, 1, none⟩) b_30).trans kb0_1⟩
  clear kb0_0 kb0_1
  refine (C_impl_InRange _ _ _ _).mono ?_
  rw [q0]
  rintro e w1 ⟨rfl, hw1⟩
  subst hw1
  go_wp2
  go_ret
  exact ⟨ret_bool (by rw [HZ.out]), hvb⟩
 by_cases hl : (List.length x.2 : Int) ≤ x.1
 rotate_left
 ·have HZ := Lib.hid (show F = false from by rw [HF.out, decide_eq_false hl]; simp)
  have q1 : decide (x.1 < (List.length x.2 : Int)) = true := by simpa using hl
  go_enter Try.func40, Try.ntmps40
  go_wp2_with fail
  generalize (w.alloc (.cells #[.int .i64 x.1, .slice Ax1 (List.length x.2) cx1] 55)) = WX at kb0_0 kb0_1 hvb zb zb0 ⊢
  have HC : Hid (∀ V, Below WX.heap.size WX V → V.cell? ⟨w.heap.size, 0, none⟩ = some (.int .i64 x.1) ∧ V.cell? ⟨w.heap.size, 1, none⟩ = some (.slice Ax1 (List.length x.2) cx1)) := fun V hW => ⟨(hW.cell (p := ⟨w.heap.size, 0, none⟩) b_30).trans kb0_0, (hW.cell (p := ⟨w.heap.size, 1, none⟩) b_30).trans kb0_1⟩
  clear kb0_0 kb0_1
  refine (C_impl_InRange _ _ _ _).mono ?_
  rw [q0]
  rintro e w1 ⟨rfl, hw1⟩
  subst hw1
  obtain ⟨j0, j1⟩ := HC.out _ ((Below.refl _ _))
  have zw0 : w.heap.size < w1.heap.size := by omega
  go_wp2
  go_ret
  exact ⟨ret_bool (by rw [HZ.out]), hvb⟩
 have HF2 := Lib.hid (show F = (List.range (List.length x.2)).all (entP x.2) from by rw [HF.out, q0, decide_eq_true hl]; rfl)
 have q1 : decide (x.1 < (List.length x.2 : Int)) = false := by simpa using hl
 go_enter Try.func40, Try.ntmps40
 go_wp2_with fail
 generalize (w.alloc (.cells #[.int .i64 x.1, .slice Ax1 (List.length x.2) cx1] 55)) = WX at kb0_0 kb0_1 hvb zb zb0 ⊢
 have HC : Hid (∀ V, Below WX.heap.size WX V → V.cell? ⟨w.heap.size, 0, none⟩ = some (.int .i64 x.1) ∧ V.cell? ⟨w.heap.size, 1, none⟩ = some (.slice Ax1 (List.length x.2) cx1)) := fun V hW => ⟨(hW.cell (p := ⟨w.heap.size, 0, none⟩) b_30).trans kb0_0, (hW.cell (p := ⟨w.heap.size, 1, none⟩) b_30).trans kb0_1⟩
 clear kb0_0 kb0_1
 refine (C_impl_InRange _ _ _ _).mono ?_
 rw [q0]
 rintro e w1 ⟨rfl, hw1⟩
 subst hw1
 obtain ⟨j0, j1⟩ := HC.out _ ((Below.refl _ _))
 have zw0 : w.heap.size < w1.heap.size := by omega
 go_wp2
 clear j0 j1 zw0 q0 q1
 go_loopw [20] (fun i wr => ∃ k : Nat, k ≤ List.length x.2 ∧ i = .int .i64 k ∧ (List.range k).all (entP x.2) = true ∧ Below w1.heap.size w1 wr) (fun i _ => List.length x.2 - (intOf i).toNat)
 case atStart => exact ⟨0, by omega, by first | rfl | simp, rfl, Below.refl _ _⟩
 case round =>
  obtain ⟨k, hk, rfl, ht, hb⟩ := hrel
  have HT := Lib.hid ht
  clear ht
  have hw : Below w.heap.size w wr := bel_trans hvb hb
  obtain ⟨j0, j1⟩ := HC.out _ (hb)
  have zw0 : w.heap.size < wr.heap.size := by have := hb.size; omega
  by_cases hlt : k < List.length x.2
  ·have HSX := Lib.hid (rangeAll_succ (entP x.2) k)
   have HK := Lib.hid (entP_at hlt)
   have HE := Lib.hid (show entAt x.2 k (x.2)[k] = (f_ValidData (x.2)[k].1 && !(x.2.take k).any (entName (x.2)[k].1.1)) from rfl)
   obtain ⟨b, o, dse, rfl, hle, hcelle, hrde⟩ := Ty.rd_at (Ty.rd_below hw xg1) hlt
   have hrde' := hrde
   obtain ⟨Ae00, ce00, Ae01, ce01, Ae02, ce02, rfl, eg0, eg1⟩ := rd_CacheEntry hrde
   have e0 : wr.cell? ⟨b, o + k * 6, none⟩ = some (.slice Ae00 (List.length (x.2)[k].1.1) ce00) := by simpa [Ty.sz] using hcelle 0 b_33
   have e1 : wr.cell? ⟨b, o + k * 6 + 1, none⟩ = some (.slice Ae01 (List.length (x.2)[k].1.2.1) ce01) := by simpa [Ty.sz] using hcelle 1 b_33
   have e2 : wr.cell? ⟨b, o + k * 6 + 2, none⟩ = some (.slice Ae02 (List.length (x.2)[k].1.2.2.1) ce02) := by simpa [Ty.sz] using hcelle 2 b_33
   have e3 : wr.cell? ⟨b, o + k * 6 + 3, none⟩ = some (.int .i64 (x.2)[k].1.2.2.2.1) := by simpa [Ty.sz] using hcelle 3 b_33
   have e4 : wr.cell? ⟨b, o + k * 6 + 4, none⟩ = some (.int .i64 (x.2)[k].1.2.2.2.2) := by simpa [Ty.sz] using hcelle 4 b_33
   have e5 : wr.cell? ⟨b, o + k * 6 + 5, none⟩ = some (.int .i64 (x.2)[k].2) := by simpa [Ty.sz] using hcelle 5 b_33
   clear hcelle hle
   have hng : Ty.rd wr (.sl .str) [.slice Ae00 (List.length (x.2)[k].1.1) ce00] (x.2)[k].1.1 := rd_pr_head eg0
   have hlb : b < wr.heap.size := World.block_lt_of_cell? wr _ e0
   have HTK := Lib.hid (Ty.rd_take (Ty.rd_below hw xg1) (Nat.le_of_lt hlt))
   have i0 : (0 : Int) ≤ (k : Int) := by omega
   have i1 : (k : Int) < (List.length x.2 : Int) := by omega
   have i2 : (k : Int) ≤ (cx1 : Int) := by omega
   have hno : Hid (entAt x.2 k (x.2)[k] = false → F = false) := fun h2 => by rw [HF.out, rangeAll_not hlt (by rw [HK.out, h2])]; simp
   have kb0_0 : (wr.alloc (.cells #[.slice Ae00 (List.length (x.2)[k].1.1) ce00, .slice Ae01 (List.length (x.2)[k].1.2.1) ce01, .slice Ae02 (List.length (x.2)[k].1.2.2.1) ce02, .int .i64 (x.2)[k].1.2.2.2.1, .int .i64 (x.2)[k].1.2.2.2.2, .int .i64 (x.2)[k].2] 127)).cell? ⟨wr.heap.size, 0, none⟩ = some (.slice Ae00 (List.length (x.2)[k].1.1) ce00) := (cell_new wr _ _ 0 b_24)
   have kb0_1 : (wr.alloc (.cells #[.slice Ae00 (List.length (x.2)[k].1.1) ce00, .slice Ae01 (List.length (x.2)[k].1.2.1) ce01, .slice Ae02 (List.length (x.2)[k].1.2.2.1) ce02, .int .i64 (x.2)[k].1.2.2.2.1, .int .i64 (x.2)[k].1.2.2.2.2, .int .i64 (x.2)[k].2] 127)).cell? ⟨wr.heap.size, 1, none⟩ = some (.slice Ae01 (List.length (x.2)[k].1.2.1) ce01) := (cell_new wr _ _ 1 b_24)
   have kb0_2 : (wr.alloc (.cells #[.slice Ae00 (List.length (x.2)[k].1.1) ce00, .slice Ae01 (List.length (x.2)[k].1.2.1) ce01, .slice Ae02 (List.length (x.2)[k].1.2.2.1) ce02, .int .i64 (x.2)[k].1.2.2.2.1, .int .i64 (x.2)[k].1.2.2.2.2, .int .i64 (x.2)[k].2] 127)).cell? ⟨wr.heap.size, 2, none⟩ = some (.slice Ae02 (List.length (x.2)[k].1.2.2.1) ce02) := (cell_new wr _ _ 2 b_24)
   have kb0_3 : (wr.alloc (.cells #[.slice Ae00 (List.length (x.2)[k].1.1) ce00, .slice Ae01 (List.length (x.2)[k].1.2.1) ce01, .slice Ae02 (List.length (x.2)[k].1.2.2.1) ce02, .int .i64 (x.2)[k].1.2.2.2.1, .int .i64 (x.2)[k].1.2.2.2.2, .int .i64 (x.2)[k].2] 127)).cell? ⟨wr.heap.size, 3, none⟩ = some (.int .i64 (x.2)[k].1.2.2.2.1) := (cell_new wr _ _ 3 b_24)
   have kb0_4 : (wr.alloc (.cells #[.slice Ae00 (List.length (x.2)[k].1.1) ce00, .slice Ae01 (List.length (x.2)[k].1.2.1) ce01, .slice Ae02 (List.length (x.2)[k].1.2.2.1) ce02, .int .i64 (x.2)[k].1.2.2.2.1, .int .i64 (x.2)[k].1.2.2.2.2, .int .i64 (x.2)[k].2] 127)).cell? ⟨wr.heap.size, 4, none⟩ = some (.int .i64 (x.2)[k].1.2.2.2.2) := (cell_new wr _ _ 4 b_24)
   have kb0_5 : (wr.alloc (.cells #[.slice Ae00 (List.length (x.2)[k].1.1) ce00, .slice Ae01 (List.length (x.2)[k].1.2.1) ce01, .slice Ae02 (List.length (x.2)[k].1.2.2.1) ce02, .int .i64 (x.2)[k].1.2.2.2.1, .int .i64 (x.2)[k].1.2.2.2.2, .int .i64 (x.2)[k].2] 127)).cell? ⟨wr.heap.size, 5, none⟩ = some (.int .i64 (x.2)[k].2) := (cell_new wr _ _ 5 b_24)
   have hve : Below wr.heap.size wr (wr.alloc (.cells #[.slice Ae00 (List.length (x.2)[k].1.1) ce00, .slice Ae01 (List.length (x.2)[k].1.2.1) ce01, .slice Ae02 (List.length (x.2)[k].1.2.2.1) ce02, .int .i64 (x.2)[k].1.2.2.2.1, .int .i64 (x.2)[k].1.2.2.2.2, .int .i64 (x.2)[k].2] 127)) := b_6
   have ze0 := Lib.hid (show (wr.alloc (.cells #[.slice Ae00 (List.length (x.2)[k].1.1) ce00, .slice Ae01 (List.length (x.2)[k].1.2.1) ce01, .slice Ae02 (List.length (x.2)[k].1.2.2.1) ce02, .int .i64 (x.2)[k].1.2.2.2.1, .int .i64 (x.2)[k].1.2.2.2.2, .int .i64 (x.2)[k].2] 127)).heap.size = wr.heap.size + 1 from by simp only [World.size_alloc])
   have ze : wr.heap.size < (wr.alloc (.cells #[.slice Ae00 (List.length (x.2)[k].1.1) ce00, .slice Ae01 (List.length (x.2)[k].1.2.1) ce01, .slice Ae02 (List.length (x.2)[k].1.2.2.1) ce02, .int .i64 (x.2)[k].1.2.2.2.1, .int .i64 (x.2)[k].1.2.2.2.2, .int .i64 (x.2)[k].2] 127)).heap.size := by simp only [World.size_alloc]; omega
   go_wp2_with fail
   generalize (wr.alloc (.cells #[.slice Ae00 (List.length (x.2)[k].1.1) ce00, .slice Ae01 (List.length (x.2)[k].1.2.1) ce01, .slice Ae02 (List.length (x.2)[k].1.2.2.1) ce02, .int .i64 (x.2)[k].1.2.2.2.1, .int .i64 (x.2)[k].1.2.2.2.2, .int .i64 (x.2)[k].2] 127)) = WE at kb0_0 kb0_1 kb0_2 kb0_3 kb0_4 kb0_5 hve ze ze0 ⊢
   have HD : Hid (∀ V, Below WE.heap.size WE V → V.cell? ⟨wr.heap.size, 0, none⟩ = some (.slice Ae00 (List.length (x.2)[k].1.1) ce00) ∧ V.cell? ⟨wr.heap.size, 1, none⟩ = some (.slice Ae01 (List.length (x.2)[k].1.2.1) ce01) ∧ V.cell? ⟨wr.heap.size, 2, none⟩ = some (.slice Ae02 (List.length (x.2)[k].1.2.2.1) ce02) ∧ V.cell? ⟨wr.heap.size, 3, none⟩ = some (.int .i64 (x.2)[k].1.2.2.2.1) ∧ V.cell? ⟨wr.heap.size, 4, none⟩ = some (.int .i64 (x.2)[k].1.2.2.2.2) ∧ V.cell? ⟨wr.heap.size, 5, none⟩ = some (.int .i64 (x.2)[k].2)) := fun V hW => ⟨(hW.cell (p := ⟨wr.heap.size, 0, none⟩) b_30).trans kb0_0, (hW.cell (p := ⟨wr.heap.size, 1, none⟩) b_30).trans kb0_1, (hW.cell (p := ⟨wr.heap.size, 2, none⟩) b_30).trans kb0_2, (hW.cell (p := ⟨wr.heap.size, 3, none⟩) b_30).trans kb0_3, (hW.cell (p := ⟨wr.heap.size, 4, none⟩) b_30).trans kb0_4, (hW.cell (p := ⟨wr.heap.size, 5, none⟩) b_30).trans kb0_5⟩
   clear kb0_0 kb0_1 kb0_2 kb0_3 kb0_4 kb0_5
   refine (C_impl_ValidData _ _ (x.2)[k].1 (Ty.rd_below hve eg0) (entry_bulk' (Ty.bulk_at s0e hlt))).mono ?_
   rintro e w2 ⟨rfl, hb2⟩
   cases q0 : f_ValidData (x.2)[k].1
   ·have HZ := Lib.hid (hno.out (by rw [HE.out, q0]; rfl))
    go_wp2
    go_ret
    exact ⟨ret_bool (by rw [HZ.out]), bel_trans hw (bel_trans hve hb2)⟩
   clear j0 j1
   obtain ⟨j0, j1⟩ := HC.out _ ((bel_trans hb (bel_trans hve hb2)))
   have zw2 : w.heap.size < w2.heap.size := by have := (bel_trans hve hb2).size; omega
   have HEN := Lib.hid (show entAt x.2 k (x.2)[k] = !(x.2.take k).any (entName (x.2)[k].1.1) from by rw [HE.out, q0]; rfl)
   clear q0
   go_wp2_with fail
   refine (C_ContainsFunc_CacheEntry _ _ (x.2.take k) (entName (x.2)[k].1.1) 112 #[.pointer (some ⟨wr.heap.size, 0, none⟩)] (enters_of Try.func112 b_31 rfl) (Ty.rd_below (bel_trans hve hb2) HTK.out) (fun W ds d hd hr hW => ?_)).mono ?_
   ·have h2 := HD.out W (bel_trans hb2 hW)
    exact C_impl_ValidContentStore1 W ds d _ _ _ _ hr h2.1 (Ty.rd_below (bel_trans hve (bel_trans hb2 hW)) hng)
   rintro e w3 ⟨rfl, hb3⟩
   have hv3 : Below wr.heap.size wr w3 := bel_trans hve (bel_trans hb2 hb3)
   cases q4 : (x.2.take k).any (entName (x.2)[k].1.1)
   ·have HZ := Lib.hid (show entAt x.2 k (x.2)[k] = true from by rw [HEN.out, q4]; rfl)
    go_wp2
    go_roundw
    case rel => exact ⟨k + 1, by omega, by go_num, by rw [HSX.out, HT.out, HK.out, HZ.out]; rfl, bel_trans hb hv3⟩
    case measure => simp [intOf]; omega
   ·have HZ := Lib.hid (hno.out (by rw [HEN.out, q4]; rfl))
    go_wp2
    go_ret
    exact ⟨ret_bool (by rw [HZ.out]), bel_trans hw hv3⟩
  ·have HE : Hid ((List.range (List.length x.2)).all (entP x.2) = true) := by have := HT.out; rwa [show k = List.length x.2 from by omega] at this
   go_wp2
   go_ret
   exact ⟨ret_bool (by rw [HF2.out, HE.out]), hw⟩
set_option maxRecDepth 100000 in
set_option maxHeartbeats 2000000 in
theorem C_spec_ValidContentStore (w : World) (cs : List Value) (x : Ty.D tContentStore) (h : Ty.rd w tContentStore cs x) (s0 : Ty.bulk tContentStore x ≤ 1048576) :
  Calls Try.prog 41 #[.agg cs.toArray] w (RetB w (f_ValidContentStore x)) := by
 obtain ⟨Ax1, cx1, rfl, xg0, xg1⟩ := rd_ContentStore h
 have s0e := store_bulk' s0
 have hxl := Ty.bulk_len s0e
 obtain ⟨_, _, _, m7, _, m9⟩ := Ty.rd_sl xg1
 have hF : f_ValidContentStore x = ((inR x.1 0 8 && decide ((List.length x.2 : Int) ≤ x.1)) && (List.range (List.length x.2)).all (entP x.2)) := rfl
 generalize f_ValidContentStore x = F at hF ⊢
 have HF := Lib.hid hF
 clear hF
 have kb0_0 : (w.alloc (.cells #[.int .i64 x.1, .slice Ax1 (List.length x.2) cx1] 55)).cell? ⟨w.heap.size, 0, none⟩ = some (.int .i64 x.1) := (cell_new w _ _ 0 b_24)
 have kb0_1 : (w.alloc (.cells #[.int .i64 x.1, .slice Ax1 (List.length x.2) cx1] 55)).cell? ⟨w.heap.size, 1, none⟩ = some (.slice Ax1 (List.length x.2) cx1) := (cell_new w _ _ 1 b_24)
 have hvb : Below w.heap.size w (w.alloc (.cells #[.int .i64 x.1, .slice Ax1 (List.length x.2) cx1] 55)) := b_6
 have zb0 := Lib.hid (show (w.alloc (.cells #[.int .i64 x.1, .slice Ax1 (List.length x.2) cx1] 55)).heap.size = w.heap.size + 1 from by simp only [World.size_alloc])
 have zb : w.heap.size < (w.alloc (.cells #[.int .i64 x.1, .slice Ax1 (List.length x.2) cx1] 55)).heap.size := by simp only [World.size_alloc]; omega
 go_enter Try.func41, Try.ntmps41
 go_wp2
 generalize (w.alloc (.cells #[.int .i64 x.1, .slice Ax1 (List.length x.2) cx1] 55)) = WX at kb0_0 kb0_1 hvb zb zb0 ⊢
 have HC : Hid (∀ V, Below WX.heap.size WX V → V.cell? ⟨w.heap.size, 0, none⟩ = some (.int .i64 x.1) ∧ V.cell? ⟨w.heap.size, 1, none⟩ = some (.slice Ax1 (List.length x.2) cx1)) := fun V hW => ⟨(hW.cell (p := ⟨w.heap.size, 0, none⟩) b_30).trans kb0_0, (hW.cell (p := ⟨w.heap.size, 1, none⟩) b_30).trans kb0_1⟩
 clear kb0_0 kb0_1
 go_loopw [3] (fun i wr => ∃ k : Nat, k ≤ List.length x.2 ∧ i = .int .i64 k ∧ (List.range k).all (entP x.2) = true ∧ Below WX.heap.size WX wr) (fun i _ => List.length x.2 - (intOf i).toNat)
 case atStart => exact ⟨0, by omega, rfl, rfl, Below.refl _ _⟩
 case round =>
  obtain ⟨k, hk, rfl, ht, hb⟩ := hrel
  have HT := Lib.hid ht
  clear ht
  have hw : Below w.heap.size w wr := bel_trans hvb hb
  obtain ⟨j0, j1⟩ := HC.out _ (hb)
  have zw0 : w.heap.size < wr.heap.size := by have := hb.size; omega
  by_cases hlt : k < List.length x.2
  ·have HSX := Lib.hid (rangeAll_succ (entP x.2) k)
   have HK := Lib.hid (entP_at hlt)
   have HE := Lib.hid (show entAt x.2 k (x.2)[k] = (f_ValidData (x.2)[k].1 && !(x.2.take k).any (entName (x.2)[k].1.1)) from rfl)
   obtain ⟨b, o, dse, rfl, hle, hcelle, hrde⟩ := Ty.rd_at (Ty.rd_below hw xg1) hlt
   have hrde' := hrde
   obtain ⟨Ae00, ce00, Ae01, ce01, Ae02, ce02, rfl, eg0, eg1⟩ := rd_CacheEntry hrde
   have e0 : wr.cell? ⟨b, o + k * 6, none⟩ = some (.slice Ae00 (List.length (x.2)[k].1.1) ce00) := by simpa [Ty.sz] using hcelle 0 b_33
   have e1 : wr.cell? ⟨b, o + k * 6 + 1, none⟩ = some (.slice Ae01 (List.length (x.2)[k].1.2.1) ce01) := by simpa [Ty.sz] using hcelle 1 b_33
   have e2 : wr.cell? ⟨b, o + k * 6 + 2, none⟩ = some (.slice Ae02 (List.length (x.2)[k].1.2.2.1) ce02) := by simpa [Ty.sz] using hcelle 2 b_33
   have e3 : wr.cell? ⟨b, o + k * 6 + 3, none⟩ = some (.int .i64 (x.2)[k].1.2.2.2.1) := by simpa [Ty.sz] using hcelle 3 b_33
   have e4 : wr.cell? ⟨b, o + k * 6 + 4, none⟩ = some (.int .i64 (x.2)[k].1.2.2.2.2) := by simpa [Ty.sz] using hcelle 4 b_33
   have e5 : wr.cell? ⟨b, o + k * 6 + 5, none⟩ = some (.int .i64 (x.2)[k].2) := by simpa [Ty.sz] using hcelle 5 b_33
   clear hcelle hle
   have hng : Ty.rd wr (.sl .str) [.slice Ae00 (List.length (x.2)[k].1.1) ce00] (x.2)[k].1.1 := rd_pr_head eg0
   have hlb : b < wr.heap.size := World.block_lt_of_cell? wr _ e0
   have HTK := Lib.hid (Ty.rd_take (Ty.rd_below hw xg1) (Nat.le_of_lt hlt))
   have i0 : (0 : Int) ≤ (k : Int) := by omega
   have i1 : (k : Int) < (List.length x.2 : Int) := by omega
   have i2 : (k : Int) ≤ (cx1 : Int) := by omega
   have hno : Hid (entAt x.2 k (x.2)[k] = false → F = false) := fun h2 => by rw [HF.out, rangeAll_not hlt (by rw [HK.out, h2])]; simp
   have HS : Hid (∀ W, Below wr.heap.size wr W → Below wr.heap.size wr W ∧ W.cell? ⟨w.heap.size, 0, none⟩ = some (.int .i64 x.1) ∧ W.cell? ⟨w.heap.size, 1, none⟩ = some (.slice (some ⟨b, o, none⟩) (List.length x.2) cx1) ∧ W.cell? ⟨b, o + k * 6, none⟩ = some (.slice Ae00 (List.length (x.2)[k].1.1) ce00) ∧ W.cell? ⟨b, o + k * 6 + 1, none⟩ = some (.slice Ae01 (List.length (x.2)[k].1.2.1) ce01) ∧ W.cell? ⟨b, o + k * 6 + 2, none⟩ = some (.slice Ae02 (List.length (x.2)[k].1.2.2.1) ce02) ∧ W.cell? ⟨b, o + k * 6 + 3, none⟩ = some (.int .i64 (x.2)[k].1.2.2.2.1) ∧ W.cell? ⟨b, o + k * 6 + 4, none⟩ = some (.int .i64 (x.2)[k].1.2.2.2.2)) := fun W hW => ⟨hW, (HC.out W (bel_trans hb hW)).1, (HC.out W (bel_trans hb hW)).2, (hW.cell (p := ⟨b, o + k * 6, none⟩) hlb).trans e0, (hW.cell (p := ⟨b, o + k * 6 + 1, none⟩) hlb).trans e1, (hW.cell (p := ⟨b, o + k * 6 + 2, none⟩) hlb).trans e2, (hW.cell (p := ⟨b, o + k * 6 + 3, none⟩) hlb).trans e3, (hW.cell (p := ⟨b, o + k * 6 + 4, none⟩) hlb).trans e4⟩
   have hv0 : Below wr.heap.size wr wr := Below.refl _ _
   cases q0 : f_ValidData (x.2)[k].1
   ·have HZ := Lib.hid (hno.out (by rw [HE.out, q0]; rfl))
    go_wp2_with fail
    refine wp_region_noPanic ?_
    refine wp_region_held_drew (S := (fun W => Below wr.heap.size wr W ∧ W.cell? ⟨w.heap.size, 0, none⟩ = some (.int .i64 x.1) ∧ W.cell? ⟨w.heap.size, 1, none⟩ = some (.slice (some ⟨b, o, none⟩) (List.length x.2) cx1) ∧ W.cell? ⟨b, o + k * 6, none⟩ = some (.slice Ae00 (List.length (x.2)[k].1.1) ce00) ∧ W.cell? ⟨b, o + k * 6 + 1, none⟩ = some (.slice Ae01 (List.length (x.2)[k].1.2.1) ce01) ∧ W.cell? ⟨b, o + k * 6 + 2, none⟩ = some (.slice Ae02 (List.length (x.2)[k].1.2.2.1) ce02) ∧ W.cell? ⟨b, o + k * 6 + 3, none⟩ = some (.int .i64 (x.2)[k].1.2.2.2.1) ∧ W.cell? ⟨b, o + k * 6 + 4, none⟩ = some (.int .i64 (x.2)[k].1.2.2.2.2))) b_31 ?_ (fun hHeld => ?_)
    ·exact HS.out _ b_2
    refine tkz4 0 1 2 3 ?_
    try simp only [layz]
    refine tkz2 4 5 ?_
    try simp only [layz]
    refine rz1 6 (fun K hK => ?_)
    go_simp
    go_at_call 61
    refine (C_spec_ValidDataG _ _ (x.2)[k].1 (Ty.rd_below b_2 eg0)).mono ?_
    rw [q0]
    rintro e w1 ⟨rfl, hb1⟩
    refine hK.out _ _ (HS.out _ b_2) (fun hHeld => ?_)
    clear hK K
    try simp only [layz]
    refine tkz2 7 8 ?_
    try simp only [layz]
    refine skz 9 ?_
    try simp only [layz]
    refine skz 10 ?_
    try simp only [layz]
    refine skz 11 ?_
    try simp only [layz]
    refine skz 12 ?_
    try simp only [layz]
    refine skz 13 ?_
    try simp only [layz]
    refine skz 14 ?_
    try simp only [layz]
    refine skz 15 ?_
    try simp only [layz]
    refine skz 16 ?_
    try simp only [layz]
    refine skz 17 ?_
    try simp only [layz]
    refine skz 18 ?_
    try simp only [layz]
    refine skz 19 ?_
    try simp only [layz]
    refine skz 20 ?_
    try simp only [layz]
    refine skz 21 ?_
    try simp only [layz]
    refine tkz 22 ?_
    try simp only [layz]
    refine wpAnyH_done b_31 ?_ _
    refine NoPanic.normal ?_
    go_wp2
    go_ret
    exact ⟨ret_bool (by rw [HZ.out]), bel_trans hw b_2⟩
   cases q4 : (x.2.take k).any (entName (x.2)[k].1.1)
   rotate_left
   ·have HZ := Lib.hid (hno.out (by rw [HE.out, q0, q4]; rfl))
    obtain ⟨m, q3⟩ : ∃ m : Nat, ixf (entName (x.2)[k].1.1) (x.2.take k) = m := by
     have h1 := ixf_ge (entName (x.2)[k].1.1) (x.2.take k)
     rw [q4] at h1
     have h2 : ixf (entName (x.2)[k].1.1) (x.2.take k) ≥ 0 := by simpa using h1
     exact ⟨(ixf (entName (x.2)[k].1.1) (x.2.take k)).toNat, by omega⟩
    go_wp2_with fail
    refine wp_region_noPanic ?_
    refine wp_region_held_drew (S := (fun W => Below wr.heap.size wr W ∧ W.cell? ⟨w.heap.size, 0, none⟩ = some (.int .i64 x.1) ∧ W.cell? ⟨w.heap.size, 1, none⟩ = some (.slice (some ⟨b, o, none⟩) (List.length x.2) cx1) ∧ W.cell? ⟨b, o + k * 6, none⟩ = some (.slice Ae00 (List.length (x.2)[k].1.1) ce00) ∧ W.cell? ⟨b, o + k * 6 + 1, none⟩ = some (.slice Ae01 (List.length (x.2)[k].1.2.1) ce01) ∧ W.cell? ⟨b, o + k * 6 + 2, none⟩ = some (.slice Ae02 (List.length (x.2)[k].1.2.2.1) ce02) ∧ W.cell? ⟨b, o + k * 6 + 3, none⟩ = some (.int .i64 (x.2)[k].1.2.2.2.1) ∧ W.cell? ⟨b, o + k * 6 + 4, none⟩ = some (.int .i64 (x.2)[k].1.2.2.2.2))) b_31 ?_ (fun hHeld => ?_)
    ·exact HS.out _ b_2
    refine tkz4 0 1 2 3 ?_
    try simp only [layz]
    refine tkz2 4 5 ?_
    try simp only [layz]
    refine rz1 6 (fun K hK => ?_)
    go_simp
    go_at_call 61
    refine (C_spec_ValidDataG _ _ (x.2)[k].1 (Ty.rd_below b_2 eg0)).mono ?_
    rw [q0]
    rintro e w1 ⟨rfl, hb1⟩
    refine hK.out _ _ (HS.out _ b_2) (fun hHeld => ?_)
    clear hK K
    try simp only [layz]
    refine tkz4 7 8 9 10 ?_
    try simp only [layz]
    refine tkz4 11 12 13 14 ?_
    try simp only [layz]
    refine tkz4 15 16 17 18 ?_
    try simp only [layz]
    refine tkz 19 ?_
    try simp only [layz]
    refine rz1 20 (fun K hK => ?_)
    go_simp
    go_at_call 104
    refine (C_spec_l12Find _ _ (x.2.take k) _ (x.2)[k].1.1 (Ty.rd_below b_2 HTK.out) (Ty.rd_below b_2 hng)).mono ?_
    rw [q3]
    rintro e w3 ⟨rfl, hb3⟩
    refine hK.out _ _ (HS.out _ b_2) (fun hHeld => ?_)
    clear hK K
    try simp only [layz]
    refine tkz2 21 22 ?_
    try simp only [layz]
    refine wpAnyH_done b_31 ?_ _
    refine NoPanic.normal ?_
    go_wp2
    go_ret
    exact ⟨ret_bool (by rw [HZ.out]), bel_trans hw b_2⟩
   have HZ := Lib.hid (show entAt x.2 k (x.2)[k] = true from by rw [HE.out, q0, q4]; rfl)
   have q3 : ixf (entName (x.2)[k].1.1) (x.2.take k) = -1 := ixf_miss _ _ q4
   clear q4
   go_wp2_with fail
   refine wp_region_noPanic ?_
   refine wp_region_held_drew (S := (fun W => Below wr.heap.size wr W ∧ W.cell? ⟨w.heap.size, 0, none⟩ = some (.int .i64 x.1) ∧ W.cell? ⟨w.heap.size, 1, none⟩ = some (.slice (some ⟨b, o, none⟩) (List.length x.2) cx1) ∧ W.cell? ⟨b, o + k * 6, none⟩ = some (.slice Ae00 (List.length (x.2)[k].1.1) ce00) ∧ W.cell? ⟨b, o + k * 6 + 1, none⟩ = some (.slice Ae01 (List.length (x.2)[k].1.2.1) ce01) ∧ W.cell? ⟨b, o + k * 6 + 2, none⟩ = some (.slice Ae02 (List.length (x.2)[k].1.2.2.1) ce02) ∧ W.cell? ⟨b, o + k * 6 + 3, none⟩ = some (.int .i64 (x.2)[k].1.2.2.2.1) ∧ W.cell? ⟨b, o + k * 6 + 4, none⟩ = some (.int .i64 (x.2)[k].1.2.2.2.2))) b_31 ?_ (fun hHeld => ?_)
   ·exact HS.out _ b_2
   refine tkz4 0 1 2 3 ?_
   try simp only [layz]
   refine tkz2 4 5 ?_
   try simp only [layz]
   refine rz1 6 (fun K hK => ?_)
   go_simp
   go_at_call 61
   refine (C_spec_ValidDataG _ _ (x.2)[k].1 (Ty.rd_below b_2 eg0)).mono ?_
   rw [q0]
   rintro e w1 ⟨rfl, hb1⟩
   refine hK.out _ _ (HS.out _ b_2) (fun hHeld => ?_)
   clear hK K
   try simp only [layz]
   refine tkz4 7 8 9 10 ?_
   try simp only [layz]
   refine tkz4 11 12 13 14 ?_
   try simp only [layz]
   refine tkz4 15 16 17 18 ?_
   try simp only [layz]
   refine tkz 19 ?_
   try simp only [layz]
   refine rz1 20 (fun K hK => ?_)
   go_simp
   go_at_call 104
   refine (C_spec_l12Find _ _ (x.2.take k) _ (x.2)[k].1.1 (Ty.rd_below b_2 HTK.out) (Ty.rd_below b_2 hng)).mono ?_
   rw [q3]
   rintro e w3 ⟨rfl, hb3⟩
   refine hK.out _ _ (HS.out _ b_2) (fun hHeld => ?_)
   clear hK K
   try simp only [layz]
   refine tkz2 21 22 ?_
   try simp only [layz]
   refine wpAnyH_done b_31 ?_ _
   refine NoPanic.normal ?_
   have hv3 : Below wr.heap.size wr w3 := b_2
   clear q0 q3
   go_wp2
   go_roundw
   case rel => exact ⟨k + 1, by omega, by go_num, by rw [HSX.out, HT.out, HK.out, HZ.out]; rfl, bel_trans hb hv3⟩
   case measure => simp [intOf]; omega
  ·have HE : Hid ((List.range (List.length x.2)).all (entP x.2) = true) := by have := HT.out; rwa [show k = List.length x.2 from by omega] at this
   have HF2 := Lib.hid (show F = (inR x.1 0 8 && decide ((List.length x.2 : Int) ≤ x.1)) from by rw [HF.out, HE.out]; simp)
   go_wp2_with fail
   refine (C_spec_l1In _ _ _ _).mono ?_
   rintro e w1 ⟨rfl, hw1⟩
   subst hw1
   cases q0 : inR x.1 0 8
   ·rw [q0] at HF2
    go_wp2
    go_ret
    exact ⟨ret_bool (by rw [HF2.out]; rfl), hw⟩
   ·rw [q0] at HF2
    go_wp2
    go_ret
    exact ⟨ret_bool (by rw [HF2.out]; rfl), hw⟩
end Go.Proofs.Ytldgbnlcnlfmeaa
