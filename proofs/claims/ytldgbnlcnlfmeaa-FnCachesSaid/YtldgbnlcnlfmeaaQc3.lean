/- Texts of this claim, merged by a program: Cnm Rwd Dat Ixf. -/
import Derived.Test.YtldgbnlcnlfmeaaQcP
import Derived.Test.YtldgbnlcnlfmeaaQc2
import Derived.Test.YtldgbnlcnlfmeaaQc1
import Derived.Test.YtldgbnlcnlfmeaaQc0
import Derived.Laws.CopyRow
import Derived.Maps.AppendAt
import Derived.Deep.RegionHeld3
namespace Go.Proofs.Ytldgbnlcnlfmeaa
open Go.RowKit
set_option linter.unusedVariables false
set_option linter.unusedSimpArgs false
def namesOf (l : List (Ty.D tCacheEntry)) : List (List (List UInt8)) := l.map (fun e => e.1.1)
def f_CachedNames (x : Ty.D tContentStore) : List (List (List UInt8)) := namesOf x.2
theorem store_bulk' {x : tContentStore.D} {n : Nat} (s : Ty.bulk tContentStore x ≤ n) : Ty.bulk (.sl tCacheEntry) x.2 ≤ n := by
 have h1 : 0 + Ty.bulk (.sl tCacheEntry) x.2 ≤ n := s
 omega
theorem entry_bulk' {x : tCacheEntry.D} {n : Nat} (s : Ty.bulk tCacheEntry x ≤ n) : Ty.bulk tData x.1 ≤ n := by
 have h1 : Ty.bulk tData x.1 + 0 ≤ n := s
 omega
theorem data_bulk_name {x : tData.D} {n : Nat} (s : Ty.bulk tData x ≤ n) : Ty.bulk (.sl .str) x.1 ≤ n := by
 have h1 : Ty.bulk (.sl .str) x.1 + (Ty.bulk (.sl .byte) x.2.1 + (Ty.bulk (.sl .str) x.2.2.1 + (0 + 0))) ≤ n := s
 omega
theorem rd_pr_head {w : World} {a b : Ty} {u : Value} {cs : List Value} {x : (Ty.pr (.sl a) b).D} (h : (Ty.pr (.sl a) b).rd w (u :: cs) x) : (Ty.sl a).rd w [u] x.1 := by
 obtain ⟨c1, c2, e, h1, h2⟩ := h
 obtain ⟨A, c, rfl⟩ := Ty.rd_slv h1
 simp only [List.cons_append, List.nil_append, List.cons.injEq] at e
 rw [e.1]; exact h1
theorem namesOf_succ (l : List (Ty.D tCacheEntry)) {k : Nat} (h : k < l.length) : namesOf (l.take (k + 1)) = namesOf (l.take k) ++ [l[k].1.1] := by
 unfold namesOf
 rw [List.take_succ_eq_append_getElem h, List.map_append]; rfl
theorem namesOf_len (l : List (Ty.D tCacheEntry)) {k : Nat} (h : k ≤ l.length) : (namesOf (l.take k)).length = k := by unfold namesOf; rw [List.length_map, List.length_take]; omega
set_option maxRecDepth 100000 in
set_option maxHeartbeats 2000000 in
theorem C_impl_CachedNames (w : World) (cs : List Value) (x : Ty.D tContentStore) (h : Ty.rd w tContentStore cs x) (s0 : Ty.bulk tContentStore x ≤ 1048576) :
  Calls Try.prog 38 #[.agg cs.toArray] w (RetSl w (.sl .str) (f_CachedNames x)) := by
 obtain ⟨Ax1, cx1, rfl, xg0, xg1⟩ := rd_ContentStore h
 have s0e := store_bulk' s0
 have hxl := Ty.bulk_len s0e
 obtain ⟨_, _, _, _, _, m9⟩ := Ty.rd_sl xg1
 have kb0_0 : (w.alloc (.cells #[.int .i64 x.1, .slice Ax1 (List.length x.2) cx1] 55)).cell? ⟨w.heap.size, 0, none⟩ = some (.int .i64 x.1) := (cell_new w _ _ 0 b_24)
 have kb0_1 : (w.alloc (.cells #[.int .i64 x.1, .slice Ax1 (List.length x.2) cx1] 55)).cell? ⟨w.heap.size, 1, none⟩ = some (.slice Ax1 (List.length x.2) cx1) := (cell_new w _ _ 1 b_24)
 have hvb : Below w.heap.size w (w.alloc (.cells #[.int .i64 x.1, .slice Ax1 (List.length x.2) cx1] 55)) := b_6
 have zb0 := Lib.hid (show (w.alloc (.cells #[.int .i64 x.1, .slice Ax1 (List.length x.2) cx1] 55)).heap.size = w.heap.size + 1 from by simp only [World.size_alloc])
 have zb : w.heap.size < (w.alloc (.cells #[.int .i64 x.1, .slice Ax1 (List.length x.2) cx1] 55)).heap.size := by simp only [World.size_alloc]; omega
 go_enter Try.func38, Try.ntmps38
 go_wp2
 generalize (w.alloc (.cells #[.int .i64 x.1, .slice Ax1 (List.length x.2) cx1] 55)) = WX at kb0_0 kb0_1 hvb zb zb0 ⊢
 have HC : Hid (∀ V, Below WX.heap.size WX V → V.cell? ⟨w.heap.size, 0, none⟩ = some (.int .i64 x.1) ∧ V.cell? ⟨w.heap.size, 1, none⟩ = some (.slice Ax1 (List.length x.2) cx1)) := fun V hW => ⟨(hW.cell (p := ⟨w.heap.size, 0, none⟩) b_30).trans kb0_0, (hW.cell (p := ⟨w.heap.size, 1, none⟩) b_30).trans kb0_1⟩
 clear kb0_0 kb0_1
 have hr0 : DRow (.sl .str) (WX.alloc (.cells #[] 27)) WX.heap.size 27 (.slice (some ⟨w.heap.size + 1, 0, none⟩) 0 0) [] := by rw [← zb0.out]; exact DRow.lit0 (.sl .str) WX 27 (Nat.le_refl _)
 have HR0 := Lib.hid hr0
 clear hr0
 go_loopw [3, 10] (fun l i wr => ∃ k : Nat, k ≤ List.length x.2 ∧ i = .int .i64 k ∧ DRow (.sl .str) wr WX.heap.size 27 l (namesOf (x.2.take k)) ∧ Below WX.heap.size WX wr) (fun _ i _ => List.length x.2 - (intOf i).toNat)
 case atStart => exact ⟨0, by omega, rfl, HR0.out, b_6⟩
 case round =>
  obtain ⟨k, hk, rfl, hr, hb⟩ := hrel
  have HR := Lib.hid hr
  clear hr
  have hw : Below w.heap.size w wr := bel_trans hvb hb
  have hz0 : w.heap.size < wr.heap.size := by have := hb.size; omega
  obtain ⟨j0, j1⟩ := HC.out _ (hb)
  by_cases hlt : k < List.length x.2
  ·have HL := Lib.hid (show (namesOf (x.2.take k)).length = k from namesOf_len x.2 hk)
   have HP := Lib.hid (namesOf_succ x.2 hlt)
   obtain ⟨b, o, dse, rfl, hle, hcelle, hrde⟩ := Ty.rd_at (Ty.rd_below hw xg1) hlt
   have hrde' := hrde
   obtain ⟨Ae00, ce00, Ae01, ce01, Ae02, ce02, rfl, eg0, eg1⟩ := rd_CacheEntry hrde
   have e0 : wr.cell? ⟨b, o + k * 6, none⟩ = some (.slice Ae00 (List.length (x.2)[k].1.1) ce00) := by simpa [Ty.sz] using hcelle 0 b_33
   have e1 : wr.cell? ⟨b, o + k * 6 + 1, none⟩ = some (.slice Ae01 (List.length (x.2)[k].1.2.1) ce01) := by simpa [Ty.sz] using hcelle 1 b_33
   have e2 : wr.cell? ⟨b, o + k * 6 + 2, none⟩ = some (.slice Ae02 (List.length (x.2)[k].1.2.2.1) ce02) := by simpa [Ty.sz] using hcelle 2 b_33
   have e3 : wr.cell? ⟨b, o + k * 6 + 3, none⟩ = some (.int .i64 (x.2)[k].1.2.2.2.1) := by simpa [Ty.sz] using hcelle 3 b_33
   have e4 : wr.cell? ⟨b, o + k * 6 + 4, none⟩ = some (.int .i64 (x.2)[k].1.2.2.2.2) := by simpa [Ty.sz] using hcelle 4 b_33
   have e5 : wr.cell? ⟨b, o + k * 6 + 5, none⟩ = some (.int .i64 (x.2)[k].2) := by simpa [Ty.sz] using hcelle 5 b_33
   clear hcelle hle
   have hd := data_bulk_name (entry_bulk' (Ty.bulk_at s0e hlt))
   have hnl := Ty.bulk_len hd
   have hng : Ty.rd wr (.sl .str) [.slice Ae00 (List.length (x.2)[k].1.1) ce00] (x.2)[k].1.1 := rd_pr_head eg0
   go_wp2_with fail
   refine (C_impl_copyName _ _ (x.2)[k].1.1 (Ty.rd_below b_6 hng) b_34).mono ?_
   rintro e w1 ⟨cs1, fp1, rfl, how1, hfr1, hb1⟩
   obtain ⟨A1, c1, rfl⟩ := Ty.ow_slv how1
   have hv1 : Below wr.heap.size wr w1 := bel_trans b_6 hb1
   have hz1 := hb1.size
   (try simp only [World.size_alloc] at hz1)
   go_wp2_with (at_builtin; go_loud (refine wpList_append_drow (e := .sl .str) rfl _ _ 41 rfl wr WX.heap.size 27 info_Name rfl Try.underlying41 _ _ (namesOf (x.2.take k)) [(x.2)[k].1.1] b_35 b_35 HR.out (bel_alloc hv1 _) (Src.lit 27 how1 (hfr1.mono b_26 (Nat.le_refl _))) ?_ ?_ ?_ ?_))
   case refine_1 => rw [HL.out, List.length_singleton]; omega
   case refine_2 => rw [HL.out, List.length_singleton]; unfold maxLen; omega
   case refine_3 => exact hb.size
   intro v' w' hr' hg'
   have hb' : Below WX.heap.size WX w' := bel_grown (bel_alloc (bel_trans hb hv1) _) (by have := hb.size; simp only [World.size_alloc]; omega) hg' (fun g hg => (HR.out.block g hg).1)
   have HR' := Lib.hid hr'
   clear hr' hg'
   go_wp2
   go_roundw
   case rel => exact ⟨k + 1, by omega, by go_num, by rw [HP.out]; exact HR'.out, hb'⟩
   case measure => simp [intOf]; omega
  ·have HE : Hid (namesOf (x.2.take k) = f_CachedNames x) := by unfold Hid f_CachedNames; rw [List.take_of_length_le b_34]
   obtain ⟨A9, c9, fp9, rfl, how9, hfr9⟩ := HR.out.own
   go_wp2
   go_ret
   rw [← HE.out]
   exact ⟨A9, c9, fp9, rfl, how9, hfr9.mono b_34 (Nat.le_refl _), hw⟩
set_option maxRecDepth 100000 in
set_option maxHeartbeats 2000000 in
theorem C_spec_CachedNames (w : World) (cs : List Value) (x : Ty.D tContentStore) (h : Ty.rd w tContentStore cs x) (s0 : Ty.bulk tContentStore x ≤ 1048576) :
  Calls Try.prog 39 #[.agg cs.toArray] w (RetSl w (.sl .str) (f_CachedNames x)) := by
 obtain ⟨Ax1, cx1, rfl, xg0, xg1⟩ := rd_ContentStore h
 have s0e := store_bulk' s0
 have hxl := Ty.bulk_len s0e
 obtain ⟨_, _, _, _, _, m9⟩ := Ty.rd_sl xg1
 have kb0_0 : (w.alloc (.cells #[.int .i64 x.1, .slice Ax1 (List.length x.2) cx1] 55)).cell? ⟨w.heap.size, 0, none⟩ = some (.int .i64 x.1) := (cell_new w _ _ 0 b_24)
 have kb0_1 : (w.alloc (.cells #[.int .i64 x.1, .slice Ax1 (List.length x.2) cx1] 55)).cell? ⟨w.heap.size, 1, none⟩ = some (.slice Ax1 (List.length x.2) cx1) := (cell_new w _ _ 1 b_24)
 have hvb : Below w.heap.size w (w.alloc (.cells #[.int .i64 x.1, .slice Ax1 (List.length x.2) cx1] 55)) := b_6
 have zb0 := Lib.hid (show (w.alloc (.cells #[.int .i64 x.1, .slice Ax1 (List.length x.2) cx1] 55)).heap.size = w.heap.size + 1 from by simp only [World.size_alloc])
 have zb : w.heap.size < (w.alloc (.cells #[.int .i64 x.1, .slice Ax1 (List.length x.2) cx1] 55)).heap.size := by simp only [World.size_alloc]; omega
 go_enter Try.func39, Try.ntmps39
 go_wp2
 generalize (w.alloc (.cells #[.int .i64 x.1, .slice Ax1 (List.length x.2) cx1] 55)) = WX at kb0_0 kb0_1 hvb zb zb0 ⊢
 have HC : Hid (∀ V, Below WX.heap.size WX V → V.cell? ⟨w.heap.size, 0, none⟩ = some (.int .i64 x.1) ∧ V.cell? ⟨w.heap.size, 1, none⟩ = some (.slice Ax1 (List.length x.2) cx1)) := fun V hW => ⟨(hW.cell (p := ⟨w.heap.size, 0, none⟩) b_30).trans kb0_0, (hW.cell (p := ⟨w.heap.size, 1, none⟩) b_30).trans kb0_1⟩
 clear kb0_0 kb0_1
 have hr0 : DRow (.sl .str) (WX.alloc (.cells #[] 27)) WX.heap.size 27 (.slice (some ⟨w.heap.size + 1, 0, none⟩) 0 0) [] := by rw [← zb0.out]; exact DRow.lit0 (.sl .str) WX 27 (Nat.le_refl _)
 have HR0 := Lib.hid hr0
 clear hr0
 go_loopw [3, 4] (fun l i wr => ∃ k : Nat, k ≤ List.length x.2 ∧ i = .int .i64 k ∧ DRow (.sl .str) wr WX.heap.size 27 l (namesOf (x.2.take k)) ∧ Below WX.heap.size WX wr) (fun _ i _ => List.length x.2 - (intOf i).toNat)
 case atStart => exact ⟨0, by omega, rfl, HR0.out, b_6⟩
 case round =>
  obtain ⟨k, hk, rfl, hr, hb⟩ := hrel
  have HR := Lib.hid hr
  clear hr
  have hw : Below w.heap.size w wr := bel_trans hvb hb
  have hz0 : w.heap.size < wr.heap.size := by have := hb.size; omega
  obtain ⟨j0, j1⟩ := HC.out _ (hb)
  by_cases hlt : k < List.length x.2
  ·have HL := Lib.hid (show (namesOf (x.2.take k)).length = k from namesOf_len x.2 hk)
   have HP := Lib.hid (namesOf_succ x.2 hlt)
   obtain ⟨b, o, dse, rfl, hle, hcelle, hrde⟩ := Ty.rd_at (Ty.rd_below hw xg1) hlt
   have hrde' := hrde
   obtain ⟨Ae00, ce00, Ae01, ce01, Ae02, ce02, rfl, eg0, eg1⟩ := rd_CacheEntry hrde
   have e0 : wr.cell? ⟨b, o + k * 6, none⟩ = some (.slice Ae00 (List.length (x.2)[k].1.1) ce00) := by simpa [Ty.sz] using hcelle 0 b_33
   have e1 : wr.cell? ⟨b, o + k * 6 + 1, none⟩ = some (.slice Ae01 (List.length (x.2)[k].1.2.1) ce01) := by simpa [Ty.sz] using hcelle 1 b_33
   have e2 : wr.cell? ⟨b, o + k * 6 + 2, none⟩ = some (.slice Ae02 (List.length (x.2)[k].1.2.2.1) ce02) := by simpa [Ty.sz] using hcelle 2 b_33
   have e3 : wr.cell? ⟨b, o + k * 6 + 3, none⟩ = some (.int .i64 (x.2)[k].1.2.2.2.1) := by simpa [Ty.sz] using hcelle 3 b_33
   have e4 : wr.cell? ⟨b, o + k * 6 + 4, none⟩ = some (.int .i64 (x.2)[k].1.2.2.2.2) := by simpa [Ty.sz] using hcelle 4 b_33
   have e5 : wr.cell? ⟨b, o + k * 6 + 5, none⟩ = some (.int .i64 (x.2)[k].2) := by simpa [Ty.sz] using hcelle 5 b_33
   clear hcelle hle
   have hd := data_bulk_name (entry_bulk' (Ty.bulk_at s0e hlt))
   have hnl := Ty.bulk_len hd
   have hng : Ty.rd wr (.sl .str) [.slice Ae00 (List.length (x.2)[k].1.1) ce00] (x.2)[k].1.1 := rd_pr_head eg0
   go_wp2_with fail
   refine (C_spec_l4Copy _ _ (x.2)[k].1.1 (Ty.rd_below b_6 hng) b_34).mono ?_
   rintro e w1 ⟨cs1, fp1, rfl, how1, hfr1, hb1⟩
   obtain ⟨A1, c1, rfl⟩ := Ty.ow_slv how1
   have hv1 : Below wr.heap.size wr w1 := bel_trans b_6 hb1
   have hz1 := hb1.size
   (try simp only [World.size_alloc] at hz1)
   go_wp2_with (at_builtin; go_loud (refine wpList_append_drow (e := .sl .str) rfl _ _ 41 rfl wr WX.heap.size 27 info_Name rfl Try.underlying41 _ _ (namesOf (x.2.take k)) [(x.2)[k].1.1] b_35 b_35 HR.out (bel_alloc (bel_alloc hv1 _) _) (Src.litE 27 (Ty.ow_bel b_6 how1) (hfr1.mono b_34 b_26) b_24) ?_ ?_ ?_ ?_))
   case refine_1 => rw [HL.out, List.length_singleton]; omega
   case refine_2 => rw [HL.out, List.length_singleton]; unfold maxLen; omega
   case refine_3 => exact hb.size
   intro v' w' hr' hg'
   have hb' : Below WX.heap.size WX w' := bel_grown (bel_alloc (bel_alloc (bel_trans hb hv1) _) _) (by have := hb.size; simp only [World.size_alloc]; omega) hg' (fun g hg => (HR.out.block g hg).1)
   have HR' := Lib.hid hr'
   clear hr' hg'
   go_wp2
   go_roundw
   case rel => exact ⟨k + 1, by omega, by go_num, by rw [HP.out]; exact HR'.out, hb'⟩
   case measure => simp [intOf]; omega
  ·have HE : Hid (namesOf (x.2.take k) = f_CachedNames x) := by unfold Hid f_CachedNames; rw [List.take_of_length_le b_34]
   obtain ⟨A9, c9, fp9, rfl, how9, hfr9⟩ := HR.out.own
   go_wp2
   go_ret
   rw [← HE.out]
   exact ⟨A9, c9, fp9, rfl, how9, hfr9.mono b_34 (Nat.le_refl _), hw⟩
theorem fmr_split {α : Type} (f : Nat → List α) (a b : Nat) : (List.range (a + b)).flatMap f = (List.range a).flatMap f ++ (List.range b).flatMap (fun i => f (a + i)) := by
 rw [List.range_add, List.flatMap_append, List.flatMap_map]
theorem fmr_one {α : Type} (f : Nat → List α) (a : Nat) : (List.range 1).flatMap (fun i => f (a + i)) = f a := by simp
def dropAt {α : Type} (l : List α) (k : Nat) : List α := l.take k ++ l.drop (k + 1)
theorem dropAt_len {α : Type} {l : List α} {k : Nat} (h : k < l.length) : (dropAt l k).length = l.length - 1 := by
 unfold dropAt; rw [List.length_append, List.length_take, List.length_drop]; omega
theorem DRow.toF {e : Ty} {w : World} {base : Nat} {te : TypeId} {v : Value} {x : List e.D} (h : DRow e w base te v x) : ∃ fp, DRowF e w base te v x fp ∧ FrI base w.heap.size fp := by
 obtain ⟨css, fs, h1, h2, h3, h4⟩ := h
 exact ⟨_, ⟨css, fs, h1, h2, rfl, h4⟩, h3⟩
theorem DRowF.parts {e : Ty} {w : World} {base : Nat} {te : TypeId} {v : Value} {x : List e.D} {fp : List Nat} (h : DRowF e w base te v x fp) (h0 : 0 < x.length) :
  ∃ (g cap : Nat) (cur : Array Value) (css : Nat → List Value) (fs : Nat → List Nat), v = .slice (some ⟨g, 0, none⟩) x.length cap ∧ base ≤ g ∧ Blk w g te cur ∧ x.length ≤ cap ∧ cap ≤ maxLen ∧ cur.size = cap * e.sz ∧ cur.toList.take (x.length * e.sz) = (List.range x.length).flatMap css ∧
   (∀ i (h : i < x.length), (css i).length = e.sz ∧ e.ow w (css i) x[i] (fs i)) ∧ fp = (List.range x.length).flatMap fs ∧ g ∉ fp := by
 obtain ⟨css, fs, h1, h2, h3, h4⟩ := h
 rcases h1.2 with ⟨_, hn⟩ | ⟨g, cap, cur, rfl, hbg, hg, hnc, hcm, hcs, htake⟩
 ·omega
 ·exact ⟨g, cap, cur, css, fs, rfl, hbg, hg, hnc, hcm, hcs, htake, h2, h3, h4 g rfl⟩
def fpDrop (fs : Nat → List Nat) (n k : Nat) : List Nat := (List.range k).flatMap fs ++ (List.range (n - (k + 1))).flatMap (fun i => fs (k + 1 + i))
theorem fmr_three {α : Type} (fs : Nat → List α) {n k : Nat} (hk : k < n) : (List.range n).flatMap fs = (List.range k).flatMap fs ++ (fs k ++ (List.range (n - (k + 1))).flatMap (fun i => fs (k + 1 + i))) := by
 rw [show List.range n = List.range (k + (1 + (n - (k + 1)))) from by rw [show k + (1 + (n - (k + 1))) = n from by omega], fmr_split, fmr_split, fmr_one]
 congr 2
 exact fmr_congr (fun i _ => by rw [Nat.add_assoc])
theorem fpDrop_sub (fs : Nat → List Nat) {n k : Nat} (hk : k < n) : List.Sublist (fpDrop fs n k) ((List.range n).flatMap fs) := by
 rw [fmr_three fs hk]
 exact List.Sublist.append (List.Sublist.refl _) (List.sublist_append_right _ _)
theorem DRowF.dropped {e : Ty} {w w' : World} {base : Nat} {te : TypeId} {x : List e.D} {g cap k : Nat} {cur cur' : Array Value} {css : Nat → List Value} {fs : Nat → List Nat}
  (hbg : base ≤ g) (hnc : x.length ≤ cap) (hcm : cap ≤ maxLen) (htake : cur.toList.take (x.length * e.sz) = (List.range x.length).flatMap css)
  (h2 : ∀ i (h : i < x.length), (css i).length = e.sz ∧ e.ow w (css i) x[i] (fs i)) (h4 : g ∉ (List.range x.length).flatMap fs)
  (hk : k < x.length) (hg' : Blk w' g te cur') (hcs' : cur'.size = cap * e.sz)
  (htk : cur'.toList.take ((x.length - 1) * e.sz) = cur.toList.take (k * e.sz) ++ (cur.toList.take (x.length * e.sz)).drop ((k + 1) * e.sz))
  (hoth : ∀ b, b < w.heap.size → b ≠ g → w'.heap[b]? = w.heap[b]?) :
  DRowF e w' base te (.slice (some ⟨g, 0, none⟩) (x.length - 1) cap) (dropAt x k) (fpDrop fs x.length k) := by
 obtain ⟨m, hm⟩ : ∃ m, m = x.length - (k + 1) := ⟨_, rfl⟩
 have hl := dropAt_len hk
 have hlm : x.length - 1 = k + m := by omega
 have hcsl : ∀ i, i < x.length → (css i).length = e.sz := fun i hi => (h2 i hi).1
 have hA1 := fmr_three css hk
 rw [← hm] at hA1
 have hlk : ((List.range k).flatMap css).length = k * e.sz := fmr_len css e.sz k (fun i hi => hcsl i b_34)
 have hmul : k * e.sz ≤ x.length * e.sz := Nat.mul_le_mul_right _ b_34
 have htk1 : cur.toList.take (k * e.sz) = (List.range k).flatMap css := by
  have : (cur.toList.take (x.length * e.sz)).take (k * e.sz) = cur.toList.take (k * e.sz) := by rw [List.take_take, Nat.min_eq_left hmul]
  rw [← this, htake, hA1, ← hlk, List.take_left]
 have htk2 : (cur.toList.take (x.length * e.sz)).drop ((k + 1) * e.sz) = (List.range m).flatMap (fun i => css (k + 1 + i)) := by
  have hlk1 : ((List.range k).flatMap css ++ css k).length = (k + 1) * e.sz := by rw [List.length_append, hlk, hcsl k hk, Nat.succ_mul]
  rw [htake, hA1, ← List.append_assoc, ← hlk1, List.drop_left]
 refine ⟨glue k css (fun i => css (k + 1 + i)), glue k fs (fun i => fs (k + 1 + i)), ⟨?_, .inr ⟨g, cap, cur', ?_, hbg, hg', ?_, hcm, hcs', ?_⟩⟩, ?_, ?_, ?_⟩
 ·rw [hl, hlm, fmr_glue, List.length_append, hlk, fmr_len _ e.sz m (fun i hi => hcsl _ b_34), Nat.add_mul]
 ·rw [hl]
 ·rw [hl]; omega
 ·rw [hl, htk, htk1, htk2, hlm, fmr_glue]
 ·intro i hi
  rw [hl] at hi
  by_cases hik : i < k
  ·rw [glue_lt hik, glue_lt hik]
   have hx : (dropAt x k)[i]'(by rw [hl]; exact hi) = x[i]'(by omega) := by
    unfold dropAt
    rw [List.getElem_append_left (by rw [List.length_take]; omega), List.getElem_take]
   rw [hx]
   refine ⟨hcsl i b_34, Ty.ow_keep (fun b hb => ?_) (h2 i b_34).2⟩
   have hmem : b ∈ (List.range x.length).flatMap fs := List.mem_flatMap.2 ⟨i, List.mem_range.2 b_34, hb⟩
   exact hoth b (Ty.ow_lt (h2 i b_34).2 b hb) (fun e => h4 (by rw [← e]; exact hmem))
  ·obtain ⟨j, rfl⟩ : ∃ j, i = k + j := ⟨i - k, by omega⟩
   rw [glue_ge, glue_ge]
   have hx : (dropAt x k)[k + j]'(by rw [hl]; exact hi) = x[k + 1 + j]'(by omega) := by
    unfold dropAt
    rw [List.getElem_append_right (by rw [List.length_take]; omega), List.getElem_drop]
    congr 1
    rw [List.length_take]; omega
   rw [hx]
   refine ⟨hcsl _ b_34, Ty.ow_keep (fun b hb => ?_) (h2 _ b_34).2⟩
   have hmem : b ∈ (List.range x.length).flatMap fs := List.mem_flatMap.2 ⟨k + 1 + j, List.mem_range.2 b_34, hb⟩
   exact hoth b (Ty.ow_lt (h2 _ b_34).2 b hb) (fun e => h4 (by rw [← e]; exact hmem))
 ·rw [hl, hlm, fmr_glue]; unfold fpDrop; rw [hm]
 ·intro g' hg'' hmem
  have : g = g' := by simpa [Value.ownBlock] using hg''
  subst this
  exact h4 ((fpDrop_sub fs hk).subset hmem)
theorem Blk.setRow {w : World} {g : Nat} {t : TypeId} {cur : Array Value} (h : Blk w g t cur) (cs : Array Value) : Blk (w.setRow g cs) g t cs := setRow_heap w g cur cs t (0, 0) h
theorem setRow_grown (w : World) (g : Nat) (cs : Array Value) : w.grownBy (w.setRow g cs) (some g) :=
 ⟨rfl, rfl, rfl, by rw [setRow_size]; exact Nat.le_refl _, fun k _ hk => setRow_other w g k cs (fun e => hk (by rw [e]))⟩
theorem step_append_blk {P : Program} {w : World} {ops : Array Oper} {o : Oper} {a : Act} {K : Act → World → Prop} {Q : Exit → Act → World → Prop} {E : Prop} (hgd : o.guard = none) (s xo : Operand) (t : TypeId)
  (ho : o.op = .call { callee := .builtin .append, args := #[s, xo], argTypes := #[t, t] }) (e : TypeId) {z : Value} {sz by_ : Nat}
  (hinfo : (P.info? e).map (fun i => (i.zero, i.size, i.bytes)) = some (some z, sz, by_)) (ht : P.underlying t = some (.slice e))
  (g n cap : Nat) (cur : Array Value) (hb : Blk w g e cur) (hs : a.eval s = .slice (some ⟨g, 0, none⟩) n cap) (ad : Addr) (m c : Nat) (news : List Value) (hx : a.eval xo = .slice (some ad) m c)
  (hl : news.length = m * sz) (hnews : ∀ j u, news[j]? = some u → w.cell? (ad.add j) = some u) (h1 : ∀ u ∈ news, u.oneCell' = true) (hroom : n + m ≤ cap) (hfit : n * sz + news.length ≤ cur.size)
  (h : ∀ (W : World) (cur1 : Array Value), Blk W g e cur1 → cur1.size = cur.size → cur1.toList = cur.toList.take (n * sz) ++ news ++ cur.toList.drop (n * sz + news.length) → w.grownBy W (some g) → W.heap.size = w.heap.size → K (a.put o.dst (.slice (some ⟨g, 0, none⟩) (n + m) cap)) W) :
  if Region.wanted o (yielded ops a.tmps) = true then Oper.wp P o a w K Q else E := by
 have hw : Region.wanted o (yielded ops a.tmps) = true := by simp [Region.wanted, hgd]
 rw [if_pos hw]
 obtain ⟨i, hi, hzz⟩ := Option.map_eq_some_iff.1 hinfo
 simp only [Prod.mk.injEq] at hzz
 obtain ⟨hz, hsz, hby⟩ := hzz
 subst hsz
 have hr := run_append_room (P := P) w t o.type e i ht hi g n cap cur hb ad m c news hl hnews h1 hroom hfit
 unfold Oper.wp execOp
 simp only [ho, resolve, invoke, builtin, Sem.run_bind, Sem.run_pure, Result.andThen_ok, List.map_toArray, List.map_cons, List.map_nil, hs, hx, hr]
 exact h _ _ (Blk.setRow hb _) (by simp only [List.size_toArray, List.length_append, List.length_take, List.length_drop, Array.length_toList]; omega) rfl (setRow_grown w g _) (setRow_size w g _)
theorem mem_zeroCells {z : Array Value} {n : Nat} {u : Value} (h : u ∈ (Builtin.zeroCells z n).toList) : u ∈ z.toList := by
 unfold Builtin.zeroCells at h
 rw [Array.toList_map, List.mem_map] at h
 obtain ⟨i, hi, rfl⟩ := h
 have hi' : i < n * z.size := by simpa using hi
 have hp : 0 < z.size := by
  rcases Nat.eq_zero_or_pos z.size with h0 | h0
  ·rw [h0, Nat.mul_zero] at hi'; omega
  ·exact h0
 have hm : i % z.size < z.size := Nat.mod_lt _ hp
 rw [getElem!_pos z _ hm]
 exact Array.mem_toList_iff.2 (Array.getElem_mem hm)
theorem run_clear_blk {P : Program} {w : World} (t e ty : TypeId) {z : Value} (ht : P.underlying t = some (.slice e)) (hv : ∀ w, (zeroValue e).run P w = .ok z w) (hz1 : ∀ u ∈ z.cells.toList, u.oneCell' = true)
  (g o n c : Nat) (hn : 0 < n) (cur : Array Value) (hb : Blk w g e cur) (hfit : o + n * z.cells.size ≤ cur.size) :
  ∃ zs : List Value, zs.length = n * z.cells.size ∧ (Builtin.clear_ #[t] ty #[.slice (some ⟨g, o, none⟩) n c]).run P w = .ok (.tuple #[]) (w.setRow g (cur.toList.take o ++ zs ++ cur.toList.drop (o + zs.length)).toArray) := by
 have hlz : (Builtin.zeroCells z.cells n).toList.length = n * z.cells.size := by rw [Array.length_toList, size_zeroCells]
 refine ⟨(Builtin.zeroCells z.cells n).toList, hlz, ?_⟩
 have hst := run_storeCells_at P g o e (Builtin.zeroCells z.cells n).toList 0 cur w hb (by rw [hlz]; omega) (fun u hu => hz1 u (mem_zeroCells hu))
 simp only [Nat.add_zero] at hst
 obtain ⟨m, rfl⟩ : ∃ m, n = m + 1 := ⟨n - 1, by omega⟩
 simp [Builtin.clear_, run_underlying ht, hv, hst]
theorem run_clear_row {P : Program} {w : World} (t e ty : TypeId) {z : Value} (ht : P.underlying t = some (.slice e)) (hv : ∀ w, (zeroValue e).run P w = .ok z w) (hz1 : ∀ u ∈ z.cells.toList, u.oneCell' = true)
  (g off n c : Nat) (hn : 0 < n) (cur : Array Value) (hb : Blk w g e cur) (hfit : off + n * z.cells.size ≤ cur.size) :
  ∃ (W : World) (cur1 : Array Value), (Builtin.clear_ #[t] ty #[.slice (some ⟨g, off, none⟩) n c]).run P w = .ok (.tuple #[]) W ∧ Blk W g e cur1 ∧ cur1.size = cur.size ∧ cur1.toList.take off = cur.toList.take off ∧ w.grownBy W (some g) ∧ W.heap.size = w.heap.size := by
 obtain ⟨zs, hzl, hr⟩ := run_clear_blk (P := P) t e ty ht hv hz1 g off n c hn cur hb hfit
 exact ⟨_, _, hr, Blk.setRow hb _, by simp only [List.size_toArray, List.length_append, List.length_take, List.length_drop, Array.length_toList]; omega,
  by rw [List.append_assoc, List.take_append_of_le_length (by rw [List.length_take, Array.length_toList]; omega), List.take_take, Nat.min_self], setRow_grown w g _, setRow_size w g _⟩
theorem ob_lit {g n c g' : Nat} (h : (Value.slice (some ⟨g, 0, none⟩) n c).ownBlock = some g') : g = g' := by simpa [Value.ownBlock] using h
theorem SrcF.keepB {e : Ty} {w w' : World} {u : Value} {y : List e.D} {fp : List Nat} (h : SrcF e w u y fp) (hk : ∀ b, b < w.heap.size → w'.heap[b]? = w.heap[b]?) : SrcF e w' u y fp := by
 obtain ⟨A, c, fs, h1, h2, h3⟩ := h
 refine ⟨A, c, fs, h1, h2, fun h0 => ?_⟩
 obtain ⟨b, o, hA, hel⟩ := h3 h0
 refine ⟨b, o, hA, fun i hi => ?_⟩
 obtain ⟨ds, g1, g2, g3⟩ := hel i hi
 refine ⟨ds, g1, fun j hj => ?_, Ty.ow_keep (fun b' hb' => hk b' (Ty.ow_lt g3 b' hb')) g3⟩
 have hv : w.cell? ⟨b, o + i * e.sz + j, none⟩ = some (ds[j]'(by omega)) := by rw [g2 j hj]; exact List.getElem?_eq_getElem b_34
 have hlt : b < w.heap.size := World.block_lt_of_cell? w _ hv
 rw [cell_of_heap (hk b hlt)]
 exact g2 j hj
theorem row_cell {e : Ty} {w : World} {x : List e.D} {g : Nat} {te : TypeId} {cur : Array Value} {css : Nat → List Value} (hB : Blk w g te cur) (htake : cur.toList.take (x.length * e.sz) = (List.range x.length).flatMap css) (hcs : ∀ i, i < x.length → (css i).length = e.sz) {i j : Nat} (hi : i < x.length) (hj : j < e.sz) :
  w.cell? ⟨g, i * e.sz + j, none⟩ = (css i)[j]? := by
 have hlt : i * e.sz + j < x.length * e.sz := by
  have h5 : (i + 1) * e.sz ≤ x.length * e.sz := Nat.mul_le_mul_right _ hi
  rw [Nat.succ_mul] at h5; omega
 rw [hB.cell, ← Array.getElem?_toList, ← fmr_get css e.sz x.length hcs i j hi hj, ← htake, List.getElem?_take_of_lt hlt]
theorem SrcF.head {e : Ty} {w : World} {x : List e.D} {g cap k : Nat} {te : TypeId} {cur : Array Value} {css : Nat → List Value} {fs : Nat → List Nat} (hB : Blk w g te cur) (htake : cur.toList.take (x.length * e.sz) = (List.range x.length).flatMap css)
  (h2 : ∀ i (h : i < x.length), (css i).length = e.sz ∧ e.ow w (css i) x[i] (fs i)) (hk : k ≤ x.length) : SrcF e w (.slice (some ⟨g, 0, none⟩) k cap) (x.take k) ((List.range k).flatMap fs) := by
 have hl : (x.take k).length = k := by rw [List.length_take]; omega
 refine ⟨_, cap, fs, by rw [hl], by rw [hl], fun h0 => ⟨g, 0, rfl, fun i hi => ?_⟩⟩
 rw [hl] at hi
 refine ⟨css i, (h2 i b_34).1, fun j hj => ?_, ?_⟩
 ·rw [Nat.zero_add]; exact row_cell hB htake (fun i hi => (h2 i hi).1) b_34 hj
 ·rw [List.getElem_take]; exact (h2 i b_34).2
theorem SrcF.tail {e : Ty} {w : World} {x : List e.D} {g c k : Nat} {te : TypeId} {cur : Array Value} {css : Nat → List Value} {fs : Nat → List Nat} {A : Addr} (hB : Blk w g te cur) (htake : cur.toList.take (x.length * e.sz) = (List.range x.length).flatMap css)
  (h2 : ∀ i (h : i < x.length), (css i).length = e.sz ∧ e.ow w (css i) x[i] (fs i)) (hA : k < x.length → A = ⟨g, k * e.sz, none⟩) : SrcF e w (.slice (some A) (x.length - k) c) (x.drop k) ((List.range (x.length - k)).flatMap (fun i => fs (k + i))) := by
 have hl : (x.drop k).length = x.length - k := List.length_drop
 refine ⟨_, c, fun i => fs (k + i), by rw [hl], by rw [hl], fun h0 => ⟨g, k * e.sz, by rw [hA b_34], fun i hi => ?_⟩⟩
 rw [hl] at hi
 refine ⟨css (k + i), (h2 _ b_34).1, fun j hj => ?_, ?_⟩
 ·rw [← Nat.add_mul]; exact row_cell hB htake (fun i hi => (h2 i hi).1) b_34 hj
 ·rw [List.getElem_drop]; exact (h2 _ b_34).2
theorem step_append_drowF {P : Program} {w : World} {ops : Array Oper} {o : Oper} {a : Act} {K : Act → World → Prop} {Q : Exit → Act → World → Prop} {E : Prop} (hgd : o.guard = none) (s xo : Operand) (t : TypeId)
  (ho : o.op = .call { callee := .builtin .append, args := #[s, xo], argTypes := #[t, t] }) {e : Ty} (base : Nat) (te : TypeId) {z : Value} {by_ : Nat}
  (hinfo : (P.info? te).map (fun i => (i.zero, i.size, i.bytes)) = some (some z, e.sz, by_)) (hz1 : z.cells.size = e.sz) (ht : P.underlying t = some (.slice te))
  (v u : Value) (x y : List e.D) (fp fq : List Nat) (hs : a.eval s = v) (hx : a.eval xo = u) (hown : DRowF e w base te v x fp) (hy : SrcF e w u y fq) (hvy : ∀ g, v.ownBlock = some g → g ∉ fq) (hbytes : (x.length + y.length) * by_ ≤ 140737488355328) (hlen : x.length + y.length ≤ maxLen) (hbase : base ≤ w.heap.size)
  (h : ∀ v' w', DRowF e w' base te v' (x ++ y) (fp ++ fq) → w.grownBy w' v.ownBlock → (v'.ownBlock = v.ownBlock ∨ v'.ownBlock = some w.heap.size) → K (a.put o.dst v') w') :
  if Region.wanted o (yielded ops a.tmps) = true then Oper.wp P o a w K Q else E := by
 have hw : Region.wanted o (yielded ops a.tmps) = true := by simp [Region.wanted, hgd]
 rw [if_pos hw]
 obtain ⟨v', w', hr, h2, h3, h4⟩ := run_append_drowF (P := P) base t o.type te hinfo hz1 ht v u x y fp fq hown hy hvy hbytes hlen hbase
 unfold Oper.wp execOp
 simp only [ho, resolve, invoke, builtin, Sem.run_bind, Sem.run_pure, Result.andThen_ok, List.map_toArray, List.map_cons, List.map_nil, hs, hx, hr]
 exact h v' w' h2 h3 h4
theorem DRow.keep {e : Ty} {w w' : World} {base : Nat} {te : TypeId} {v : Value} {x : List e.D} (h : DRow e w base te v x) (hsz : w.heap.size ≤ w'.heap.size) (hk : ∀ b, base ≤ b → b < w.heap.size → w'.heap[b]? = w.heap[b]?) : DRow e w' base te v x := by
 have hbl := h.block
 obtain ⟨css, fs, h1, h2, h3, h4⟩ := h
 refine ⟨css, fs, ⟨h1.1, ?_⟩, fun i hi => ⟨(h2 i hi).1, Ty.ow_keep (fun b hb' => ?_) (h2 i hi).2⟩, h3.mono (Nat.le_refl _) hsz, h4⟩
 ·rcases h1.2 with hn | ⟨g, cap, cur, rfl, hbg, hgg, rest⟩
  ·exact .inl hn
  ·exact .inr ⟨g, cap, cur, rfl, hbg, (hk g hbg (hbl g rfl).2).trans hgg, rest⟩
 ·have := h3.2 b (List.mem_flatMap.2 ⟨i, List.mem_range.2 hi, hb'⟩)
  exact hk b this.1 this.2
theorem grow_blk {w0 w w' : World} {row : Option Nat} {g : Nat} {t : TypeId} {cs : Array Value} (hb : Below w0.heap.size w0 w) (hg : w.grownBy w' row) (h : Blk w0 g t cs) (hn : some g ≠ row) : Blk w' g t cs := (h.below hb h.lt).grown hg hn
theorem grow_bel {w0 w w' : World} {row : Option Nat} (h : Below w0.heap.size w0 w) (hg : w.grownBy w' row) (hrow : ∀ g, row = some g → w0.heap.size ≤ g) : Below w0.heap.size w0 w' := bel_grown h h.size hg hrow
theorem grow_size {w0 w w' : World} {row : Option Nat} (hb : Below w0.heap.size w0 w) (hg : w.grownBy w' row) : w0.heap.size ≤ w'.heap.size := Nat.le_trans hb.size hg.size
theorem DRow.far {e : Ty} {w : World} {base : Nat} {te : TypeId} {v : Value} {x : List e.D} (h : DRow e w base te v x) {p : Addr} (hp : p.block < base) (u : Value) : DRow e (w.setCell p u) base te v x :=
 h.keep b_22 (fun b hb _ => Below.heap_setCell w p u b b_34)
def f_FreshAt (x : tData.D) (a : Int) : Bool := decide (a ≤ x.2.2.2.1)
set_option maxHeartbeats 400000 in
theorem C_spec_FreshAt (w : World) (cs : List Value) (x : tData.D) (a : Int) (h : tData.rd w cs x) (s0 : Ty.bulk tData x ≤ 1048576) (i1 : -9223372036854775808 ≤ a ∧ a ≤ 9223372036854775807) :
  Calls Try.prog 60 #[.agg cs.toArray, .int .i64 a] w (RetB w (f_FreshAt x a)) := by
 obtain ⟨A00, c00, A01, c01, A02, c02, rfl, _, _, _, _, _⟩ := rd_Data h
 go_enter Try.func60, Try.ntmps60
 go_wp2
 go_ret
 exact ⟨rfl, b_6⟩
set_option maxHeartbeats 400000 in
theorem C_impl_FreshAt (w : World) (cs : List Value) (x : tData.D) (a : Int) (h : tData.rd w cs x) (s0 : Ty.bulk tData x ≤ 1048576) (i1 : -9223372036854775808 ≤ a ∧ a ≤ 9223372036854775807) :
  Calls Try.prog 43 #[.agg cs.toArray, .int .i64 a] w (RetB w (f_FreshAt x a)) := by
 obtain ⟨A00, c00, A01, c01, A02, c02, rfl, _, _, _, _, _⟩ := rd_Data h
 go_enter Try.func43, Try.ntmps43
 go_wp2
 go_ret
 exact ⟨rfl, b_6⟩
def f_EqualData (x y : tData.D) : Bool := decide (x.1 = y.1) && (decide (x.2.1 = y.2.1) && (decide (x.2.2.1 = y.2.2.1) && (decide (x.2.2.2.1 = y.2.2.2.1) && decide (x.2.2.2.2 = y.2.2.2.2))))
set_option maxHeartbeats 1000000 in
theorem C_impl_EqualNames (w : World) (cs1 cs2 : List Value) (x y : List (List UInt8)) (h1 : (Ty.sl .str).rd w cs1 x) (h2 : (Ty.sl .str).rd w cs2 y) :
  Calls Try.prog 74 #[.agg cs1.toArray, .agg cs2.toArray] w (RetB w (decide (x = y))) := by
 obtain ⟨A1, c1, rfl⟩ := Ty.rd_slv h1
 obtain ⟨A2, c2, rfl⟩ := Ty.rd_slv h2
 go_enter Try.func74, Try.ntmps74
 go_wp2_with fail
 refine (C_slices_Equal_str _ _ _ x y (Ty.rd_below b_6 h1) (Ty.rd_below b_6 h2)).mono ?_
 rintro e w1 ⟨rfl, hb1⟩
 have hw1 : Below w.heap.size w w1 := bel_trans b_6 hb1
 go_wp2
 go_ret
 exact ⟨rfl, hw1⟩
set_option maxHeartbeats 1000000 in
theorem C_slices_Equal_byte (w : World) (v1 v2 : Value) (x y : List UInt8) (h1 : (Ty.sl .byte).rd w [v1] x) (h2 : (Ty.sl .byte).rd w [v2] y) :
  Calls Try.prog 89 #[v1, v2] w (RetB w (decide (x = y))) := by
 obtain ⟨A1, c1, rfl, hc1, hm1, hn1⟩ := Ty.rd_sl h1
 obtain ⟨A2, c2, rfl, hc2, hm2, hn2⟩ := Ty.rd_sl h2
 by_cases hl : x.length = y.length
 ·have q1 : ((x.length : Int) != y.length) = false := by simp [hl]
  have HL := Lib.hid hl
  clear hl
  go_enter Try.func89, Try.ntmps89
  go_wp2
  go_loopw [13] (fun i wr => ∃ k : Nat, k ≤ x.length ∧ i = .int .i64 k ∧ x.take k = y.take k ∧ Below w.heap.size w wr) (fun i _ => x.length - (intOf i).toNat)
  case atStart => exact ⟨0, by omega, rfl, rfl, Below.refl _ _⟩
  case round =>
   obtain ⟨k, hk, rfl, htk, hb⟩ := hrel
   have HT := Lib.hid htk
   clear htk
   by_cases hlt : k < x.length
   ·have hlt2 : k < y.length := by have := HL.out; omega
    obtain ⟨b1, o1, rfl, e1⟩ := Ty.rd_byte_at (Ty.rd_below hb h1) hlt
    obtain ⟨b2, o2, rfl, e2⟩ := Ty.rd_byte_at (Ty.rd_below hb h2) hlt2
    by_cases he : x[k] = y[k]
    ·have q2 : ((x[k].toNat : Int) != y[k].toNat) = false := by simp [he]
     have HE := Lib.hid he
     clear he
     go_wp2
     go_quiet (fail)
     go_wp2
     go_roundw
     case rel => exact ⟨k + 1, by omega, by go_num, by rw [List.take_succ_eq_append_getElem hlt, List.take_succ_eq_append_getElem hlt2, HT.out, HE.out], bel_drewN hb _⟩
     case measure => simp [intOf]; omega
    ·have q2 : ((x[k].toNat : Int) != y[k].toNat) = true := by
      rw [bne_iff_ne]
      intro h
      exact he (UInt8.toNat_inj.1 b_34)
     have HE : Hid (¬ x = y) := fun h => he (by subst h; rfl)
     clear he
     go_wp2
     go_quiet (fail)
     go_wp2
     go_ret
     exact ⟨ret_bool (by simp [HE.out]), bel_drewN hb _⟩
   ·have HE : Hid (x = y) := by
     have h1 := HT.out
     rwa [List.take_of_length_le b_34, List.take_of_length_le (by have := HL.out; omega)] at h1
    go_wp2
    go_ret
    exact ⟨ret_bool (by simp [HE.out]), hb⟩
 ·have q1 : ((x.length : Int) != y.length) = true := by rw [bne_iff_ne]; omega
  have HE : Hid (¬ x = y) := fun h => hl (congrArg List.length h)
  go_enter Try.func89, Try.ntmps89
  go_wp2
  go_ret
  exact ⟨ret_bool (by simp [HE.out]), Below.refl _ _⟩
set_option maxHeartbeats 1000000 in
theorem C_impl_EqualData (w : World) (cs1 : List Value) (x : tData.D) (cs2 : List Value) (y : tData.D) (h1 : tData.rd w cs1 x) (h2 : tData.rd w cs2 y) (s0 : Ty.bulk tData x ≤ 1048576) (s1 : Ty.bulk tData y ≤ 1048576) :
  Calls Try.prog 59 #[.agg cs1.toArray, .agg cs2.toArray] w (RetB w (f_EqualData x y)) := by
 obtain ⟨A0, c0, A1, c1, A2, c2, rfl, g0, g1, g2, _, _⟩ := rd_Data h1
 obtain ⟨B0, d0, B1, d1, B2, d2, rfl, k0, k1, k2, _, _⟩ := rd_Data h2
 go_enter Try.func59, Try.ntmps59
 go_wp2_with fail
 refine (C_impl_EqualNames _ _ _ _ _ (Ty.rd_below b_6 g0) (Ty.rd_below b_6 k0)).mono ?_
 rintro e w1 ⟨rfl, hb1⟩
 have hw1 : Below w.heap.size w w1 := bel_trans b_6 hb1
 obtain ⟨hc1, hf1⟩ := bcell hb1
 have z10 : w.heap.size < w1.heap.size := by have := hb1.size; simp only [World.size_alloc] at this; omega
 have z11 : w.heap.size + 1 < w1.heap.size := by have := hb1.size; simp only [World.size_alloc] at this; omega
 cases hq0 : decide (x.1 = y.1)
 ·go_wp2
  go_ret
  exact ⟨ret_bool (by unfold f_EqualData; rw [hq0]; rfl), hw1⟩
 go_wp2_with fail
 refine (C_slices_Equal_byte _ _ _ x.2.1 y.2.1 (Ty.rd_below b_6 g1) (Ty.rd_below b_6 k1)).mono ?_
 rintro e w2 ⟨rfl, hb2⟩
 have hw2 : Below w.heap.size w w2 := bel_trans b_6 hb2
 obtain ⟨hc2, hf2⟩ := bcell hb2
 have z20 : w.heap.size < w2.heap.size := by have := hb2.size; omega
 have z21 : w.heap.size + 1 < w2.heap.size := by have := hb2.size; omega
 cases hq1 : decide (x.2.1 = y.2.1)
 ·go_wp2
  go_ret
  exact ⟨ret_bool (by unfold f_EqualData; rw [hq0, hq1]; rfl), hw2⟩
 go_wp2_with fail
 refine (C_impl_EqualNames _ _ _ _ _ (Ty.rd_below b_6 g2) (Ty.rd_below b_6 k2)).mono ?_
 rintro e w3 ⟨rfl, hb3⟩
 have hw3 : Below w.heap.size w w3 := bel_trans b_6 hb3
 obtain ⟨hc3, hf3⟩ := bcell hb3
 cases hq2 : decide (x.2.2.1 = y.2.2.1)
 ·go_wp2
  go_ret
  exact ⟨ret_bool (by unfold f_EqualData; rw [hq0, hq1, hq2]; rfl), hw3⟩
 cases hq3 : (x.2.2.2.1 == y.2.2.2.1)
 ·go_wp2
  go_ret
  exact ⟨ret_bool (by unfold f_EqualData; rw [hq0, hq1, hq2, show decide (x.2.2.2.1 = y.2.2.2.1) = false from by simpa using hq3]; rfl), hw3⟩
 go_wp2
 go_ret
 exact ⟨ret_bool (by unfold f_EqualData; rw [hq0, hq1, hq2, show decide (x.2.2.2.1 = y.2.2.2.1) = true from by simpa using hq3]; (rw [Bool.eq_iff_iff]; simp)), hw3⟩
end Go.Proofs.Ytldgbnlcnlfmeaa
namespace Go.Proofs.Ytldgbnlcnlfmeaa
open Go.RowKit
set_option linter.unusedVariables false
set_option linter.unusedSimpArgs false
set_option maxHeartbeats 1000000 in
theorem C_IndexFunc_CacheEntry (w : World) (v : Value) (x : List (Ty.D tCacheEntry)) (p : Ty.D tCacheEntry → Bool) (g : Nat) (lb : Array Value) (eg : ∀ args w, (callFunc g args).run Try.prog w = .ok (.enter g args) w)
  (h : (Ty.sl tCacheEntry).rd w [v] x) (hp : ∀ (W : World) (ds : List Value) (d : Ty.D tCacheEntry), d ∈ x → Ty.rd W tCacheEntry ds d → Below w.heap.size w W → Calls Try.prog g (#[.agg ds.toArray] ++ lb) W (RetB W (p d))) :
  Calls Try.prog 159 #[v, .func (.func g) #[] lb] w (RetI w (ixf p x)) := by
 obtain ⟨A, c, rfl, hc, hm, hn⟩ := Ty.rd_sl h
 have HP := Lib.hid hp
 clear hp
 go_enter Try.func159, Try.ntmps159
 go_wp2
 go_loopw [8] (fun i wr => ∃ k : Nat, k ≤ x.length ∧ i = .int .i64 k ∧ (x.take k).any p = false ∧ Below w.heap.size w wr) (fun i _ => x.length - (intOf i).toNat)
 case atStart => exact ⟨0, by omega, by first | rfl | simp, by first | rfl | simp, Below.refl _ _⟩
 case round =>
  obtain ⟨k, hk, rfl, ht, hb⟩ := hrel
  have HT := Lib.hid ht
  clear ht
  by_cases hlt : k < x.length
  ·have HS := Lib.hid (any_take_succ p x hlt)
   obtain ⟨b, o, ds, rfl, hl, hcell, hrd⟩ := Ty.rd_at (Ty.rd_below hb h) hlt
   have hcall := HP.out wr ds x[k] (List.getElem_mem hlt) hrd hb
   obtain ⟨Aa00, ca00, Aa01, ca01, Aa02, ca02, rfl, sag0, sag1⟩ := rd_CacheEntry hrd
   have e0 : wr.cell? ⟨b, o + k * 6, none⟩ = some (.slice Aa00 (List.length x[k].1.1) ca00) := by simpa [Ty.sz] using hcell 0 b_33
   have e1 : wr.cell? ⟨b, o + k * 6 + 1, none⟩ = some (.slice Aa01 (List.length x[k].1.2.1) ca01) := by simpa [Ty.sz] using hcell 1 b_33
   have e2 : wr.cell? ⟨b, o + k * 6 + 2, none⟩ = some (.slice Aa02 (List.length x[k].1.2.2.1) ca02) := by simpa [Ty.sz] using hcell 2 b_33
   have e3 : wr.cell? ⟨b, o + k * 6 + 3, none⟩ = some (.int .i64 x[k].1.2.2.2.1) := by simpa [Ty.sz] using hcell 3 b_33
   have e4 : wr.cell? ⟨b, o + k * 6 + 4, none⟩ = some (.int .i64 x[k].1.2.2.2.2) := by simpa [Ty.sz] using hcell 4 b_33
   have e5 : wr.cell? ⟨b, o + k * 6 + 5, none⟩ = some (.int .i64 x[k].2) := by simpa [Ty.sz] using hcell 5 b_33
   clear hcell hl
   cases hq : p x[k]
   ·have HQ := Lib.hid hq
    rw [hq] at hcall
    go_wp2_with (go_at_fn g; refine hcall.mono ?_; rintro e w' ⟨rfl, hb'⟩)
    go_roundw
    case rel => exact ⟨k + 1, by omega, by go_num, by rw [HS.out, HT.out, HQ.out]; rfl, bel_trans hb hb'⟩
    case measure => simp [intOf]; omega
   ·have HQ := Lib.hid hq
    rw [hq] at hcall
    go_wp2_with (go_at_fn g; refine hcall.mono ?_; rintro e w' ⟨rfl, hb'⟩)
    go_ret
    exact ⟨ret_int (ixf_hit p x hlt HT.out HQ.out).symm, bel_trans hb hb'⟩
  ·have HE : Hid (x.any p = false) := by have := HT.out; rwa [List.take_of_length_le b_34] at this
   go_wp2
   go_ret
   exact ⟨ret_int (ixf_miss p x HE.out).symm, hb⟩
set_option maxHeartbeats 1000000 in
theorem C_ContainsFunc_CacheEntry (w : World) (v : Value) (x : List (Ty.D tCacheEntry)) (p : Ty.D tCacheEntry → Bool) (g : Nat) (lb : Array Value) (eg : ∀ args w, (callFunc g args).run Try.prog w = .ok (.enter g args) w)
  (h : (Ty.sl tCacheEntry).rd w [v] x) (hp : ∀ (W : World) (ds : List Value) (d : Ty.D tCacheEntry), d ∈ x → Ty.rd W tCacheEntry ds d → Below w.heap.size w W → Calls Try.prog g (#[.agg ds.toArray] ++ lb) W (RetB W (p d))) :
  Calls Try.prog 111 #[v, .func (.func g) #[] lb] w (RetB w (x.any p)) := by
 have hcall := C_IndexFunc_CacheEntry w v x p g lb eg h hp
 go_enter Try.func111, Try.ntmps111
 go_wp2_with fail
 refine hcall.mono ?_
 rintro e w1 ⟨rfl, hb⟩
 go_wp2
 go_ret
 exact ⟨ret_bool (ixf_ge p x), hb⟩
theorem hmf_ {P : Program} : ∀ (fn : Fn) (first cap : Array Value) (w : World), (Instr.makeFunc fn first cap).run P w = .ok (.func fn first cap) w := fun _ _ _ _ => rfl
end Go.Proofs.Ytldgbnlcnlfmeaa
