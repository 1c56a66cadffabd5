/- Texts of this claim, merged by a program: Tch Del. -/
import Derived.Test.YtldgbnlcnlfmeaaQcP
import Derived.Test.YtldgbnlcnlfmeaaQc5
import Derived.Test.YtldgbnlcnlfmeaaQc0
import Derived.Test.YtldgbnlcnlfmeaaQc3
import Derived.Test.YtldgbnlcnlfmeaaQc4
namespace Go.Proofs.Ytldgbnlcnlfmeaa
open Go.RowKit
set_option linter.unusedVariables false
set_option linter.unusedSimpArgs false
def setUsed (l : List (Ty.D tCacheEntry)) (k : Nat) (now : Int) : List (Ty.D tCacheEntry) := match l[k]? with | some e => l.set k (e.1, now) | none => l
theorem setUsed_at {l : List (Ty.D tCacheEntry)} {k : Nat} {now : Int} (h : k < l.length) : setUsed l k now = l.set k (l[k].1, now) := by unfold setUsed; rw [List.getElem?_eq_getElem h]
theorem setUsed_len (l : List (Ty.D tCacheEntry)) (k : Nat) (now : Int) : (setUsed l k now).length = l.length := by
 unfold setUsed; split
 ·exact List.length_set
 ·rfl
def touchE (n : List (List UInt8)) (now : Int) (l : List (Ty.D tCacheEntry)) : List (Ty.D tCacheEntry) := if ixf (entName n) l < 0 then l else setUsed l (ixf (entName n) l).toNat now
def f_Touch (x : Ty.D tContentStore) (n : List (List UInt8)) (now : Int) : Ty.D tContentStore := (x.1, touchE n now x.2)
theorem touchE_miss {n : List (List UInt8)} {now : Int} {l : List (Ty.D tCacheEntry)} (h : l.any (entName n) = false) : touchE n now l = l := by unfold touchE; rw [ixf_miss _ _ h]; rfl
theorem touchE_hit {n : List (List UInt8)} {now : Int} {l : List (Ty.D tCacheEntry)} {k : Nat} (h : ixf (entName n) l = (k : Int)) : touchE n now l = setUsed l k now := by
 unfold touchE; rw [h, if_neg b_34, Int.toNat_natCast]
theorem keep_all (x : Ty.D tContentStore) : keepSt pAll x = x := by
 have h : List.filter pAll x.2 = x.2 := List.filter_eq_self.2 (fun _ _ => rfl)
 exact Prod.ext rfl h
theorem ow_ContentStore_mk' {w : World} {x : Ty.D tContentStore} {A : Option Addr} {c m : Nat} {f : List Nat} (hm : m = List.length x.2) (b : -9223372036854775808 ≤ x.1 ∧ x.1 ≤ 9223372036854775807) (h : (Ty.sl tCacheEntry).ow w [.slice A m c] x.2 f) :
  Ty.ow w tContentStore [.int .i64 x.1, .slice A m c] x f := ⟨[_], [_], [], f, rfl, rfl, ⟨⟨rfl, b⟩, rfl⟩, h⟩
theorem setUsed_bulk (l : List (Ty.D tCacheEntry)) (k : Nat) (now : Int) : Ty.bulk (.sl tCacheEntry) (setUsed l k now) = Ty.bulk (.sl tCacheEntry) l := by
 by_cases hk : k < l.length
 ·rw [setUsed_at hk, List.set_eq_take_append_cons_drop, if_pos hk]
  have h1 : Ty.bulk (.sl tCacheEntry) (l.take k ++ (l[k].1, now) :: l.drop (k + 1)) = Ty.bulk (.sl tCacheEntry) (l.take k) + Ty.bulk (.sl tCacheEntry) ((l[k].1, now) :: l.drop (k + 1)) := bulk_app (e := tCacheEntry) _ _
  have h2 : Ty.bulk (.sl tCacheEntry) ((l[k].1, now) :: l.drop (k + 1)) = Ty.bulk (.sl tCacheEntry) [(l[k].1, now)] + Ty.bulk (.sl tCacheEntry) (l.drop (k + 1)) := bulk_app (e := tCacheEntry) [(l[k].1, now)] _
  have h3 := bulk_one (e := tCacheEntry) (l[k].1, now)
  have h4 : Ty.bulk (.sl tCacheEntry) (l[k] :: l.drop (k + 1)) = Ty.bulk (.sl tCacheEntry) [l[k]] + Ty.bulk (.sl tCacheEntry) (l.drop (k + 1)) := bulk_app (e := tCacheEntry) [l[k]] _
  have h5 := bulk_one (e := tCacheEntry) l[k]
  have h6 : Ty.bulk tCacheEntry (l[k].1, now) = Ty.bulk tCacheEntry l[k] := rfl
  have h7 : Ty.bulk (.sl tCacheEntry) (l.take k ++ l[k] :: l.drop (k + 1)) = Ty.bulk (.sl tCacheEntry) (l.take k) + Ty.bulk (.sl tCacheEntry) (l[k] :: l.drop (k + 1)) := bulk_app (e := tCacheEntry) _ _
  rw [List.getElem_cons_drop, List.take_append_drop] at h7
  rw [List.getElem_cons_drop] at h4
  omega
 ·unfold setUsed; rw [List.getElem?_eq_none b_34]
theorem touchE_bulk (n : List (List UInt8)) (now : Int) (l : List (Ty.D tCacheEntry)) : Ty.bulk (.sl tCacheEntry) (touchE n now l) = Ty.bulk (.sl tCacheEntry) l := by
 unfold touchE; split
 ·rfl
 ·exact setUsed_bulk _ _ _
theorem Ty.ow_at {w : World} {e : Ty} {A : Option Addr} {n c k : Nat} {xs : List e.D} {fp : List Nat} (h : (Ty.sl e).ow w [.slice A n c] xs fp) (hk : k < xs.length) :
  ∃ b o, A = some ⟨b, o, none⟩ ∧ b ∈ fp ∧ ∀ j, j < e.sz → w.frozen? ⟨b, o + k * e.sz + j, none⟩ = false := by
 obtain ⟨A', c', h1, h2, h3, h4, h5⟩ := h
 injection h1 with h1 _
 injection h1 with h1 _ _
 rcases h5 with h5 | ⟨_, b, o, fs, hA, hfp, hc⟩
 ·exact absurd h5.1 (by show ¬ xs.length = 0; omega)
 ·obtain ⟨ds, g1, g2, g3⟩ := hc k hk
  exact ⟨b, o, h1.trans hA, by rw [hfp]; exact List.mem_cons_self, fun j hj => (g2 j hj).2⟩
theorem ow_setUsed {w : World} {b o n c k : Nat} {x : List (Ty.D tCacheEntry)} {fp : List Nat} {now : Int} (h : (Ty.sl tCacheEntry).ow w [.slice (some ⟨b, o, none⟩) n c] x fp) (hk : k < x.length) (hnd : fp.Nodup) (hb : -9223372036854775808 ≤ now ∧ now ≤ 9223372036854775807) :
  (Ty.sl tCacheEntry).ow (w.setCell ⟨b, o + k * 6 + 5, none⟩ (.int .i64 now)) [.slice (some ⟨b, o, none⟩) n c] (setUsed x k now) fp := by
 obtain ⟨A, c', h1, h2, h3, h4, h5⟩ := h
 injection h1 with h1 _
 injection h1 with h1 h1n h1c
 subst h1c
 have hlen := setUsed_len x k now
 have hset := setUsed_at (now := now) hk
 rcases h5 with h5 | ⟨h0, b', o', fs, hA, hfp, hc⟩
 ·exact absurd h5.1 (by show ¬ x.length = 0; omega)
 rw [← h1] at hA
 injection hA with hA
 injection hA with hbb hoo
 subst hbb; subst hoo
 have hfp' : fp = b :: (List.range x.length).flatMap fs := hfp
 have hnb : ∀ i, i < x.length → ∀ g ∈ fs i, g ≠ b := by
  intro i hi g hg e
  rw [hfp', List.nodup_cons] at hnd
  exact hnd.1 (by rw [← e]; exact List.mem_flatMap.2 ⟨i, List.mem_range.2 hi, hg⟩)
 refine ⟨_, c, by rw [h1n, ← hlen], by show (setUsed x k now).length ≤ c; rw [hlen]; exact h2, ⟨h3.1, fun h => by cases h⟩, by show (setUsed x k now).length ≤ _; rw [hlen]; exact h4, .inr ⟨by show 0 < (setUsed x k now).length; omega, b, o, fs, rfl, by rw [show List.length (setUsed x k now) = x.length from hlen]; exact hfp', fun i hi => ?_⟩⟩
 have hi' : i < x.length := by have : i < (setUsed x k now).length := hi; omega
 obtain ⟨ds, g1, g2, g3⟩ := hc i hi'
 have g1' : ds.length = 6 := g1
 by_cases hik : i = k
 ·subst hik
  obtain ⟨c1, c2, f1, f2, hds, hf, hd1, hd2, hf2⟩ := g3
  have hl1 : c1.length = 5 := Ty.ow_len hd1
  refine ⟨c1 ++ [.int .i64 now], by rw [List.length_append, hl1]; rfl, fun j hj => ?_, ?_⟩
  ·have hj' : j < 6 := hj
   obtain ⟨q1, q2⟩ := g2 j hj
   refine ⟨?_, by rw [World.frozen?_setCell]; exact q2⟩
   by_cases hj5 : j = 5
   ·subst hj5
    have q1' : w.cell? ⟨b, o + i * 6 + 5, none⟩ = some (ds[5]'(by omega)) := by have := q1; rw [List.getElem?_eq_getElem b_34] at this; exact this
    show (w.setCell ⟨b, o + i * 6 + 5, none⟩ (.int .i64 now)).cell? ⟨b, o + i * 6 + 5, none⟩ = _
    rw [World.cell?_setCell_same _ _ _ q1', List.getElem?_append_right b_34, hl1]; rfl
   ·show (w.setCell ⟨b, o + i * 6 + 5, none⟩ (.int .i64 now)).cell? ⟨b, o + i * 6 + j, none⟩ = _
    rw [World.cell?_setCell_other _ _ _ _ (by intro h; simp only [Addr.mk.injEq] at h; omega), List.getElem?_append_left b_34]
    have q1' : w.cell? ⟨b, o + i * 6 + j, none⟩ = ds[j]? := q1
    rw [q1', hds, List.getElem?_append_left b_34]
  ·have hx : (setUsed x i now)[i]'hi = (x[i].1, now) := by simp only [hset, List.getElem_set_self]
   rw [hx]
   refine ⟨c1, [_], f1, [], rfl, by rw [hf, hf2], Ty.ow_keep (fun g hg => Below.heap_setCell w _ _ g (hnb i hi' g (by rw [hf]; exact List.mem_append_left _ hg))) hd1, ⟨rfl, hb⟩, rfl⟩
 ·refine ⟨ds, g1, fun j hj => ?_, ?_⟩
  ·have hj' : j < 6 := hj
   obtain ⟨q1, q2⟩ := g2 j hj
   refine ⟨?_, by rw [World.frozen?_setCell]; exact q2⟩
   show (w.setCell ⟨b, o + k * 6 + 5, none⟩ (.int .i64 now)).cell? ⟨b, o + i * 6 + j, none⟩ = _
   rw [World.cell?_setCell_other _ _ _ _ (by intro h; simp only [Addr.mk.injEq] at h; omega)]
   exact q1
  ·have hx : (setUsed x k now)[i]'hi = x[i] := by simp only [hset]; rw [List.getElem_set_ne b_34]
   rw [hx]
   exact Ty.ow_keep (fun g hg => Below.heap_setCell w _ _ g (hnb i hi' g hg)) g3
set_option maxRecDepth 100000 in
set_option maxHeartbeats 2000000 in
theorem C_impl_Touch (w : World) (cs1 : List Value) (x : Ty.D tContentStore) (cs2 : List Value) (n : List (List UInt8)) (now : Int) (h1 : Ty.rd w tContentStore cs1 x) (h2 : (Ty.sl .str).rd w cs2 n) (s0 : Ty.bulk tContentStore x ≤ 1048576) (s1 : Ty.bulk (.sl .str) n ≤ 1048576) (i2 : -9223372036854775808 ≤ now ∧ now ≤ 9223372036854775807) :
  Calls Try.prog 30 #[.agg cs1.toArray, .agg cs2.toArray, .int .i64 now] w (RetAgg w tContentStore (f_Touch x n now)) := by
 obtain ⟨Ax1, cx1, rfl, xg0, xg1⟩ := rd_ContentStore h1
 obtain ⟨An0, cn0, rfl⟩ := Ty.rd_slv h2
 have s0e := store_bulk' s0
 have hxl := Ty.bulk_len s0e
 have hF : f_Touch x n now = (x.1, touchE n now x.2) := rfl
 generalize f_Touch x n now = F at hF ⊢
 have HF := Lib.hid hF
 clear hF
 have kb0_0 : (((w.alloc (.cells #[.int .i64 x.1, .slice Ax1 (List.length x.2) cx1] 55)).alloc (.cells #[.slice An0 (List.length n) cn0] 27)).alloc (.cells #[.int .i64 0, .slice none 0 0] 55)).cell? ⟨w.heap.size, 0, none⟩ = some (.int .i64 x.1) := ((World.cell?_alloc_lt _ _ _ b_26).trans ((World.cell?_alloc_lt _ _ _ b_26).trans (cell_new w _ _ 0 b_24)))
 have kb0_1 : (((w.alloc (.cells #[.int .i64 x.1, .slice Ax1 (List.length x.2) cx1] 55)).alloc (.cells #[.slice An0 (List.length n) cn0] 27)).alloc (.cells #[.int .i64 0, .slice none 0 0] 55)).cell? ⟨w.heap.size, 1, none⟩ = some (.slice Ax1 (List.length x.2) cx1) := ((World.cell?_alloc_lt _ _ _ b_26).trans ((World.cell?_alloc_lt _ _ _ b_26).trans (cell_new w _ _ 1 b_24)))
 have kb1_0 : (((w.alloc (.cells #[.int .i64 x.1, .slice Ax1 (List.length x.2) cx1] 55)).alloc (.cells #[.slice An0 (List.length n) cn0] 27)).alloc (.cells #[.int .i64 0, .slice none 0 0] 55)).cell? ⟨w.heap.size + 1, 0, none⟩ = some (.slice An0 (List.length n) cn0) := ((World.cell?_alloc_lt _ _ _ b_26).trans (cell_new (w.alloc (.cells #[.int .i64 x.1, .slice Ax1 (List.length x.2) cx1] 55)) _ _ 0 b_24))
 have kb2_0 : (((w.alloc (.cells #[.int .i64 x.1, .slice Ax1 (List.length x.2) cx1] 55)).alloc (.cells #[.slice An0 (List.length n) cn0] 27)).alloc (.cells #[.int .i64 0, .slice none 0 0] 55)).cell? ⟨w.heap.size + 1 + 1, 0, none⟩ = some (.int .i64 0) := (cell_new ((w.alloc (.cells #[.int .i64 x.1, .slice Ax1 (List.length x.2) cx1] 55)).alloc (.cells #[.slice An0 (List.length n) cn0] 27)) _ _ 0 b_24)
 have kb2_1 : (((w.alloc (.cells #[.int .i64 x.1, .slice Ax1 (List.length x.2) cx1] 55)).alloc (.cells #[.slice An0 (List.length n) cn0] 27)).alloc (.cells #[.int .i64 0, .slice none 0 0] 55)).cell? ⟨w.heap.size + 1 + 1, 1, none⟩ = some (.slice none 0 0) := (cell_new ((w.alloc (.cells #[.int .i64 x.1, .slice Ax1 (List.length x.2) cx1] 55)).alloc (.cells #[.slice An0 (List.length n) cn0] 27)) _ _ 1 b_24)
 have hvb : Below w.heap.size w (((w.alloc (.cells #[.int .i64 x.1, .slice Ax1 (List.length x.2) cx1] 55)).alloc (.cells #[.slice An0 (List.length n) cn0] 27)).alloc (.cells #[.int .i64 0, .slice none 0 0] 55)) := b_6
 have zb0 := Lib.hid (show (((w.alloc (.cells #[.int .i64 x.1, .slice Ax1 (List.length x.2) cx1] 55)).alloc (.cells #[.slice An0 (List.length n) cn0] 27)).alloc (.cells #[.int .i64 0, .slice none 0 0] 55)).heap.size = w.heap.size + 1 + 1 + 1 from by simp only [World.size_alloc])
 have zb : w.heap.size + 1 + 1 < (((w.alloc (.cells #[.int .i64 x.1, .slice Ax1 (List.length x.2) cx1] 55)).alloc (.cells #[.slice An0 (List.length n) cn0] 27)).alloc (.cells #[.int .i64 0, .slice none 0 0] 55)).heap.size := by simp only [World.size_alloc]; omega
 have hR0 : Blk (((w.alloc (.cells #[.int .i64 x.1, .slice Ax1 (List.length x.2) cx1] 55)).alloc (.cells #[.slice An0 (List.length n) cn0] 27)).alloc (.cells #[.int .i64 0, .slice none 0 0] 55)) (w.heap.size + 1 + 1) 55 #[.int .i64 0, .slice none 0 0] := by have := Blk.new ((w.alloc (.cells #[.int .i64 x.1, .slice Ax1 (List.length x.2) cx1] 55)).alloc (.cells #[.slice An0 (List.length n) cn0] 27)) 55 #[.int .i64 0, .slice none 0 0]; rwa [World.size_alloc, World.size_alloc] at this
 go_enter Try.func30, Try.ntmps30
 go_wp2_with fail
 generalize (((w.alloc (.cells #[.int .i64 x.1, .slice Ax1 (List.length x.2) cx1] 55)).alloc (.cells #[.slice An0 (List.length n) cn0] 27)).alloc (.cells #[.int .i64 0, .slice none 0 0] 55)) = WX at hR0 kb0_0 kb0_1 kb1_0 kb2_0 kb2_1 hvb zb zb0 ⊢
 have HC : Hid (∀ V, Below WX.heap.size WX V → V.cell? ⟨w.heap.size, 0, none⟩ = some (.int .i64 x.1) ∧ V.cell? ⟨w.heap.size, 1, none⟩ = some (.slice Ax1 (List.length x.2) cx1) ∧ V.cell? ⟨w.heap.size + 1, 0, none⟩ = some (.slice An0 (List.length n) cn0) ∧ V.cell? ⟨w.heap.size + 1 + 1, 0, none⟩ = some (.int .i64 0) ∧ V.cell? ⟨w.heap.size + 1 + 1, 1, none⟩ = some (.slice none 0 0)) := fun V hW => ⟨(hW.cell (p := ⟨w.heap.size, 0, none⟩) b_30).trans kb0_0, (hW.cell (p := ⟨w.heap.size, 1, none⟩) b_30).trans kb0_1, (hW.cell (p := ⟨w.heap.size + 1, 0, none⟩) b_30).trans kb1_0, (hW.cell (p := ⟨w.heap.size + 1 + 1, 0, none⟩) b_30).trans kb2_0, (hW.cell (p := ⟨w.heap.size + 1 + 1, 1, none⟩) b_30).trans kb2_1⟩
 clear kb0_0 kb0_1 kb1_0 kb2_0 kb2_1
 have hcp := C_impl_copyStore WX _ x (Ty.rd_below hvb h1) s0
 rw [keep_all] at hcp
 refine hcp.mono ?_
 rintro e w1 ⟨cs9, fp1, rfl, how1, hfr1, hb1⟩
 clear hcp
 obtain ⟨Aq1, cq1, rfl⟩ := ow_ContentStore how1
 obtain ⟨d1, d2, f1, f2, hdd, hff, ⟨⟨hdi, _⟩, hf1⟩, howe⟩ := how1
 have hd2 : d2 = [.slice Aq1 (List.length x.2) cq1] := by rw [hdi] at hdd; simpa using hdd.symm
 have hfp : fp1 = f2 := by rw [hff, hf1]; rfl
 subst hd2; subst hfp
 have how1 : Ty.ow w1 (.sl tCacheEntry) [.slice Aq1 (List.length x.2) cq1] x.2 fp1 := howe
 clear howe hdd hff hdi hf1
 have hz1 := hb1.size
 have hO0 : Blk (w1.alloc (.cells #[.int .i64 x.1, .slice Aq1 (List.length x.2) cq1] 55)) w1.heap.size 55 #[.int .i64 x.1, .slice Aq1 (List.length x.2) cq1] := Blk.new _ _ _
 have hvo : Below w1.heap.size w1 (w1.alloc (.cells #[.int .i64 x.1, .slice Aq1 (List.length x.2) cq1] 55)) := b_6
 have zo : w1.heap.size < (w1.alloc (.cells #[.int .i64 x.1, .slice Aq1 (List.length x.2) cq1] 55)).heap.size := by rw [World.size_alloc]; omega
 go_wp2
 generalize (w1.alloc (.cells #[.int .i64 x.1, .slice Aq1 (List.length x.2) cq1] 55)) = WO at hO0 hvo zo ⊢
 have hx0 : Below WX.heap.size WX WO := bel_trans hb1 hvo
 go_loopw [15] (fun i wr => ∃ k : Nat, k ≤ List.length x.2 ∧ i = .int .i64 k ∧ (x.2.take k).any (entName n) = false ∧ Below WO.heap.size WO wr) (fun i _ => List.length x.2 - (intOf i).toNat)
 case atStart => exact ⟨0, by omega, rfl, by first | rfl | simp, Below.refl _ _⟩
 case round =>
  obtain ⟨k, hk, rfl, ht, hb⟩ := hrel
  have hw : Below w.heap.size w wr := bel_trans hvb (bel_trans hx0 hb)
  have h1r : Below w1.heap.size w1 wr := bel_trans hvo hb
  have HT := Lib.hid ht
  clear ht
  obtain ⟨j0, j1, j2, j3, j4⟩ := HC.out _ ((bel_trans hx0 hb))
  have hsw := hb.size
  have zw0 : w.heap.size + 1 < wr.heap.size := by omega
  by_cases hlt : k < List.length x.2
  ·have HS := Lib.hid (any_take_succ (entName n) x.2 hlt)
   obtain ⟨b, o, dse, rfl, hle, hcelle, hrde⟩ := Ty.rd_at (Ty.rd_below h1r (Ty.ow_rd how1)) hlt
   have hrde' := hrde
   obtain ⟨Ae00, ce00, Ae01, ce01, Ae02, ce02, rfl, eg0, eg1⟩ := rd_CacheEntry hrde
   have e0 : wr.cell? ⟨b, o + k * 6, none⟩ = some (.slice Ae00 (List.length (x.2)[k].1.1) ce00) := by simpa [Ty.sz] using hcelle 0 b_33
   have e1 : wr.cell? ⟨b, o + k * 6 + 1, none⟩ = some (.slice Ae01 (List.length (x.2)[k].1.2.1) ce01) := by simpa [Ty.sz] using hcelle 1 b_33
   have e2 : wr.cell? ⟨b, o + k * 6 + 2, none⟩ = some (.slice Ae02 (List.length (x.2)[k].1.2.2.1) ce02) := by simpa [Ty.sz] using hcelle 2 b_33
   have e3 : wr.cell? ⟨b, o + k * 6 + 3, none⟩ = some (.int .i64 (x.2)[k].1.2.2.2.1) := by simpa [Ty.sz] using hcelle 3 b_33
   have e4 : wr.cell? ⟨b, o + k * 6 + 4, none⟩ = some (.int .i64 (x.2)[k].1.2.2.2.2) := by simpa [Ty.sz] using hcelle 4 b_33
   have e5 : wr.cell? ⟨b, o + k * 6 + 5, none⟩ = some (.int .i64 (x.2)[k].2) := by simpa [Ty.sz] using hcelle 5 b_33
   clear hcelle hle
   have hng : Ty.rd wr (.sl .str) [.slice Ae00 (List.length (x.2)[k].1.1) ce00] (x.2)[k].1.1 := rd_pr_head eg0
   have kb0_0 : (wr.alloc (.cells #[.slice Ae00 (List.length (x.2)[k].1.1) ce00, .slice Ae01 (List.length (x.2)[k].1.2.1) ce01, .slice Ae02 (List.length (x.2)[k].1.2.2.1) ce02, .int .i64 (x.2)[k].1.2.2.2.1, .int .i64 (x.2)[k].1.2.2.2.2, .int .i64 (x.2)[k].2] 127)).cell? ⟨wr.heap.size, 0, none⟩ = some (.slice Ae00 (List.length (x.2)[k].1.1) ce00) := (cell_new wr _ _ 0 b_24)
   have kb0_1 : (wr.alloc (.cells #[.slice Ae00 (List.length (x.2)[k].1.1) ce00, .slice Ae01 (List.length (x.2)[k].1.2.1) ce01, .slice Ae02 (List.length (x.2)[k].1.2.2.1) ce02, .int .i64 (x.2)[k].1.2.2.2.1, .int .i64 (x.2)[k].1.2.2.2.2, .int .i64 (x.2)[k].2] 127)).cell? ⟨wr.heap.size, 1, none⟩ = some (.slice Ae01 (List.length (x.2)[k].1.2.1) ce01) := (cell_new wr _ _ 1 b_24)
   have kb0_2 : (wr.alloc (.cells #[.slice Ae00 (List.length (x.2)[k].1.1) ce00, .slice Ae01 (List.length (x.2)[k].1.2.1) ce01, .slice Ae02 (List.length (x.2)[k].1.2.2.1) ce02, .int .i64 (x.2)[k].1.2.2.2.1, .int .i64 (x.2)[k].1.2.2.2.2, .int .i64 (x.2)[k].2] 127)).cell? ⟨wr.heap.size, 2, none⟩ = some (.slice Ae02 (List.length (x.2)[k].1.2.2.1) ce02) := (cell_new wr _ _ 2 b_24)
   have kb0_3 : (wr.alloc (.cells #[.slice Ae00 (List.length (x.2)[k].1.1) ce00, .slice Ae01 (List.length (x.2)[k].1.2.1) ce01, .slice Ae02 (List.length (x.2)[k].1.2.2.1) ce02, .int .i64 (x.2)[k].1.2.2.2.1, .int .i64 (x.2)[k].1.2.2.2.2, .int .i64 (x.2)[k].2] 127)).cell? ⟨wr.heap.size, 3, none⟩ = some (.int .i64 (x.2)[k].1.2.2.2.1) := (cell_new wr _ _ 3 b_24)
   have kb0_4 : (wr.alloc (.cells #[.slice Ae00 (List.length (x.2)[k].1.1) ce00, .slice Ae01 (List.length (x.2)[k].1.2.1) ce01, .slice Ae02 (List.length (x.2)[k].1.2.2.1) ce02, .int .i64 (x.2)[k].1.2.2.2.1, .int .i64 (x.2)[k].1.2.2.2.2, .int .i64 (x.2)[k].2] 127)).cell? ⟨wr.heap.size, 4, none⟩ = some (.int .i64 (x.2)[k].1.2.2.2.2) := (cell_new wr _ _ 4 b_24)
   have kb0_5 : (wr.alloc (.cells #[.slice Ae00 (List.length (x.2)[k].1.1) ce00, .slice Ae01 (List.length (x.2)[k].1.2.1) ce01, .slice Ae02 (List.length (x.2)[k].1.2.2.1) ce02, .int .i64 (x.2)[k].1.2.2.2.1, .int .i64 (x.2)[k].1.2.2.2.2, .int .i64 (x.2)[k].2] 127)).cell? ⟨wr.heap.size, 5, none⟩ = some (.int .i64 (x.2)[k].2) := (cell_new wr _ _ 5 b_24)
   have hve : Below wr.heap.size wr (wr.alloc (.cells #[.slice Ae00 (List.length (x.2)[k].1.1) ce00, .slice Ae01 (List.length (x.2)[k].1.2.1) ce01, .slice Ae02 (List.length (x.2)[k].1.2.2.1) ce02, .int .i64 (x.2)[k].1.2.2.2.1, .int .i64 (x.2)[k].1.2.2.2.2, .int .i64 (x.2)[k].2] 127)) := b_6
   have ze0 := Lib.hid (show (wr.alloc (.cells #[.slice Ae00 (List.length (x.2)[k].1.1) ce00, .slice Ae01 (List.length (x.2)[k].1.2.1) ce01, .slice Ae02 (List.length (x.2)[k].1.2.2.1) ce02, .int .i64 (x.2)[k].1.2.2.2.1, .int .i64 (x.2)[k].1.2.2.2.2, .int .i64 (x.2)[k].2] 127)).heap.size = wr.heap.size + 1 from by simp only [World.size_alloc])
   have ze : wr.heap.size < (wr.alloc (.cells #[.slice Ae00 (List.length (x.2)[k].1.1) ce00, .slice Ae01 (List.length (x.2)[k].1.2.1) ce01, .slice Ae02 (List.length (x.2)[k].1.2.2.1) ce02, .int .i64 (x.2)[k].1.2.2.2.1, .int .i64 (x.2)[k].1.2.2.2.2, .int .i64 (x.2)[k].2] 127)).heap.size := by simp only [World.size_alloc]; omega
   go_wp2_with fail
   generalize (wr.alloc (.cells #[.slice Ae00 (List.length (x.2)[k].1.1) ce00, .slice Ae01 (List.length (x.2)[k].1.2.1) ce01, .slice Ae02 (List.length (x.2)[k].1.2.2.1) ce02, .int .i64 (x.2)[k].1.2.2.2.1, .int .i64 (x.2)[k].1.2.2.2.2, .int .i64 (x.2)[k].2] 127)) = WE at kb0_0 kb0_1 kb0_2 kb0_3 kb0_4 kb0_5 hve ze ze0 ⊢
   have HD : Hid (∀ V, Below WE.heap.size WE V → V.cell? ⟨wr.heap.size, 0, none⟩ = some (.slice Ae00 (List.length (x.2)[k].1.1) ce00) ∧ V.cell? ⟨wr.heap.size, 1, none⟩ = some (.slice Ae01 (List.length (x.2)[k].1.2.1) ce01) ∧ V.cell? ⟨wr.heap.size, 2, none⟩ = some (.slice Ae02 (List.length (x.2)[k].1.2.2.1) ce02) ∧ V.cell? ⟨wr.heap.size, 3, none⟩ = some (.int .i64 (x.2)[k].1.2.2.2.1) ∧ V.cell? ⟨wr.heap.size, 4, none⟩ = some (.int .i64 (x.2)[k].1.2.2.2.2) ∧ V.cell? ⟨wr.heap.size, 5, none⟩ = some (.int .i64 (x.2)[k].2)) := fun V hW => ⟨(hW.cell (p := ⟨wr.heap.size, 0, none⟩) b_30).trans kb0_0, (hW.cell (p := ⟨wr.heap.size, 1, none⟩) b_30).trans kb0_1, (hW.cell (p := ⟨wr.heap.size, 2, none⟩) b_30).trans kb0_2, (hW.cell (p := ⟨wr.heap.size, 3, none⟩) b_30).trans kb0_3, (hW.cell (p := ⟨wr.heap.size, 4, none⟩) b_30).trans kb0_4, (hW.cell (p := ⟨wr.heap.size, 5, none⟩) b_30).trans kb0_5⟩
   clear kb0_0 kb0_1 kb0_2 kb0_3 kb0_4 kb0_5
   refine (C_impl_EqualNames _ _ _ _ _ (Ty.rd_below hve hng) (Ty.rd_below (bel_trans hw hve) h2)).mono ?_
   rintro e w2 ⟨rfl, hb2⟩
   clear j0 j1 j2 j3 j4
   have hv2 : Below wr.heap.size wr w2 := bel_trans hve hb2
   cases q0 : decide ((x.2)[k].1.1 = n)
   ·have HZ := Lib.hid (show entName n (x.2)[k] = false from q0)
    clear e0 e1 e2 e3 e4 e5
    go_wp2
    go_roundw
    case rel => exact ⟨k + 1, by omega, by go_num, by rw [HS.out, HT.out, HZ.out]; rfl, bel_trans hb hv2⟩
    case measure => simp [intOf]; omega
   have HQ := Lib.hid (show entName n (x.2)[k] = true from q0)
   have HIX := Lib.hid (touchE_hit (now := now) (ixf_hit (entName n) x.2 hlt HT.out HQ.out))
   obtain ⟨b9, o9, hA9, hb9, hfz⟩ := Ty.ow_at how1 hlt
   injection hA9 with hA9
   injection hA9 with hA91 hA92
   subst hA91; subst hA92
   have hbl : b < w1.heap.size := Ty.ow_lt how1 b hb9
   have h9 : Below w1.heap.size w1 w2 := bel_trans h1r hv2
   have hx9 : Below WO.heap.size WO w2 := bel_trans hb hv2
   have c9 : w2.cell? ⟨b, o + k * 6 + 5, none⟩ = some (.int .i64 (x.2)[k].2) := (hv2.cell (p := ⟨b, o + k * 6 + 5, none⟩) (Nat.lt_of_lt_of_le hbl h1r.size)).trans e5
   have f9 : w2.frozen? ⟨b, o + k * 6 + 5, none⟩ = false := (h9.frozen (p := ⟨b, o + k * 6 + 5, none⟩) hbl).trans (hfz 5 b_33)
   have z9 : b < w2.heap.size := Nat.lt_of_lt_of_le hbl h9.size
   have hO8 : Blk w2 w1.heap.size 55 #[.int .i64 x.1, .slice (some ⟨b, o, none⟩) (List.length x.2) cq1] := hO0.below hx9 hO0.lt
   have hR8 : Blk w2 (w.heap.size + 1 + 1) 55 #[.int .i64 0, .slice none 0 0] := (hR0.below hx0 hR0.lt).below hx9 (hR0.below hx0 hR0.lt).lt
   have kR_8_0 : w2.cell? ⟨w.heap.size + 1 + 1, 0, none⟩ = some (.int .i64 0) := hR8.cell 0
   have fR_8_0 : w2.frozen? ⟨w.heap.size + 1 + 1, 0, none⟩ = false := hR8.frozen 0
   have kR_8_1 : w2.cell? ⟨w.heap.size + 1 + 1, 1, none⟩ = some (.slice none 0 0) := hR8.cell 1
   have fR_8_1 : w2.frozen? ⟨w.heap.size + 1 + 1, 1, none⟩ = false := hR8.frozen 1
   have zR_8 : w.heap.size + 1 + 1 < w2.heap.size := hR8.lt
   have kO_8_0 : w2.cell? ⟨w1.heap.size, 0, none⟩ = some (.int .i64 x.1) := hO8.cell 0
   have fO_8_0 : w2.frozen? ⟨w1.heap.size, 0, none⟩ = false := hO8.frozen 0
   have kO_8_1 : w2.cell? ⟨w1.heap.size, 1, none⟩ = some (.slice (some ⟨b, o, none⟩) (List.length x.2) cq1) := hO8.cell 1
   have fO_8_1 : w2.frozen? ⟨w1.heap.size, 1, none⟩ = false := hO8.frozen 1
   have zO_8 : w1.heap.size < w2.heap.size := hO8.lt
   have hn1 : w1.heap.size ≠ b := by omega
   have hn2 : w.heap.size + 1 + 1 ≠ b := fun e => by have := (hfr1.2 b hb9).1; omega
   have hn3 : b ≠ w1.heap.size := by omega
   have hn4 : b ≠ w.heap.size + 1 + 1 := fun e => hn2 e.symm
   have hn5 : w1.heap.size ≠ w.heap.size + 1 + 1 := by omega
   have hn6 : w.heap.size + 1 + 1 ≠ w1.heap.size := by omega
   have hw9 : Below w.heap.size w w2 := bel_trans hvb (bel_trans hx0 hx9)
   have hwb : w.heap.size ≤ b := by have := (hfr1.2 b hb9).1; omega
   have how9 := ow_setUsed (Ty.ow_bel h9 how1) hlt hfr1.1 i2
   clear e0 e1 e2 e3 e4 e5
   go_wp2
   refine bodyPost_ret (v := .agg #[.int .i64 x.1, .slice (some ⟨b, o, none⟩) (List.length x.2) cq1]) (by simp [results, Try.results30, go_sem, c9, f9, z9, kR_8_0, fR_8_0, kR_8_1, fR_8_1, kO_8_0, fO_8_0, kO_8_1, fO_8_1, zR_8, zO_8, hn1, hn2, hn3, hn4, hn5, hn6]) rfl ?_
   rw [HF.out, HIX.out]
   have hlu := setUsed_len x.2 k now
   exact ⟨_, fp1, rfl, ow_ContentStore_mk' (x := (x.1, setUsed x.2 k now)) hlu.symm xg0 (Ty.ow_keep b_5 how9), hfr1.mono b_34 b_23, b_6⟩
  ·have HE : Hid (x.2.any (entName n) = false) := by have := HT.out; rwa [List.take_of_length_le b_34] at this
   have hE : touchE n now x.2 = x.2 := touchE_miss HE.out
   have hw9 : Below w.heap.size w wr := hw
   have hO8 := hO0.below hb hO0.lt
   have hR8 := (hR0.below hx0 hR0.lt).below hb (hR0.below hx0 hR0.lt).lt
   have kR_8_0 : wr.cell? ⟨w.heap.size + 1 + 1, 0, none⟩ = some (.int .i64 0) := hR8.cell 0
   have fR_8_0 : wr.frozen? ⟨w.heap.size + 1 + 1, 0, none⟩ = false := hR8.frozen 0
   have kR_8_1 : wr.cell? ⟨w.heap.size + 1 + 1, 1, none⟩ = some (.slice none 0 0) := hR8.cell 1
   have fR_8_1 : wr.frozen? ⟨w.heap.size + 1 + 1, 1, none⟩ = false := hR8.frozen 1
   have zR_8 : w.heap.size + 1 + 1 < wr.heap.size := hR8.lt
   have kO_8_0 : wr.cell? ⟨w1.heap.size, 0, none⟩ = some (.int .i64 x.1) := hO8.cell 0
   have fO_8_0 : wr.frozen? ⟨w1.heap.size, 0, none⟩ = false := hO8.frozen 0
   have kO_8_1 : wr.cell? ⟨w1.heap.size, 1, none⟩ = some (.slice Aq1 (List.length x.2) cq1) := hO8.cell 1
   have fO_8_1 : wr.frozen? ⟨w1.heap.size, 1, none⟩ = false := hO8.frozen 1
   have zO_8 : w1.heap.size < wr.heap.size := hO8.lt
   go_wp2
   refine bodyPost_ret (v := .agg #[.int .i64 x.1, .slice Aq1 (List.length x.2) cq1]) (by simp [results, Try.results30, go_sem, kR_8_0, fR_8_0, kR_8_1, fR_8_1, kO_8_0, fO_8_0, kO_8_1, fO_8_1, zR_8, zO_8]) rfl ?_
   rw [HF.out, hE]
   exact ⟨_, fp1, rfl, ow_ContentStore_mk (x := (x.1, x.2)) xg0 (Ty.ow_keep (by intro b hb'; have hb'' := (hfr1).2 b hb'; (try simp only [szz] at hb''); repeat (first | (with_reducible rfl) | (rw [Below.heap_setCell _ _ _ _ b_29]) | (rw [Below.heap_alloc _ _ _ b_20]) | (rw [h1r.block _ b_27]))) how1), hfr1.mono b_34 b_23, b_6⟩
theorem ixf_cases {α : Type} (p : α → Bool) (l : List α) : (ixf p l = -1 ∧ l.any p = false) ∨ (∃ k : Nat, ∃ h : k < l.length, ixf p l = (k : Int) ∧ (l.take k).any p = false ∧ p l[k] = true) := by
 unfold ixf
 cases hq : l.findIdx? p with
 | none =>
  left
  refine ⟨rfl, ?_⟩
  rw [List.findIdx?_eq_none_iff] at hq
  exact List.any_eq_false.2 (fun a ha => by simp [hq a ha])
 | some k =>
  right
  rw [List.findIdx?_eq_some_iff_getElem] at hq
  obtain ⟨h, hp, hj⟩ := hq
  refine ⟨k, h, rfl, List.any_eq_false.2 (fun a ha => ?_), hp⟩
  obtain ⟨j, hjl, rfl⟩ := List.getElem_of_mem ha
  rw [List.length_take] at hjl
  rw [List.getElem_take]
  simpa using hj j b_34
set_option maxRecDepth 100000 in
set_option maxHeartbeats 2000000 in
theorem C_spec_Touch (w : World) (cs1 : List Value) (x : Ty.D tContentStore) (cs2 : List Value) (n : List (List UInt8)) (now : Int) (h1 : Ty.rd w tContentStore cs1 x) (h2 : (Ty.sl .str).rd w cs2 n) (s0 : Ty.bulk tContentStore x ≤ 1048576) (s1 : Ty.bulk (.sl .str) n ≤ 1048576) (i2 : -9223372036854775808 ≤ now ∧ now ≤ 9223372036854775807) :
  Calls Try.prog 31 #[.agg cs1.toArray, .agg cs2.toArray, .int .i64 now] w (RetAgg w tContentStore (f_Touch x n now)) := by
 obtain ⟨Ax1, cx1, rfl, xg0, xg1⟩ := rd_ContentStore h1
 obtain ⟨An0, cn0, rfl⟩ := Ty.rd_slv h2
 have s0e := store_bulk' s0
 have hxl := Ty.bulk_len s0e
 have hF : f_Touch x n now = (x.1, touchE n now x.2) := rfl
 generalize f_Touch x n now = F at hF ⊢
 have HF := Lib.hid hF
 clear hF
 have kb0_0 : (((w.alloc (.cells #[.int .i64 x.1, .slice Ax1 (List.length x.2) cx1] 55)).alloc (.cells #[.slice An0 (List.length n) cn0] 27)).alloc (.cells #[.int .i64 0, .slice none 0 0] 55)).cell? ⟨w.heap.size, 0, none⟩ = some (.int .i64 x.1) := ((World.cell?_alloc_lt _ _ _ b_26).trans ((World.cell?_alloc_lt _ _ _ b_26).trans (cell_new w _ _ 0 b_24)))
 have kb0_1 : (((w.alloc (.cells #[.int .i64 x.1, .slice Ax1 (List.length x.2) cx1] 55)).alloc (.cells #[.slice An0 (List.length n) cn0] 27)).alloc (.cells #[.int .i64 0, .slice none 0 0] 55)).cell? ⟨w.heap.size, 1, none⟩ = some (.slice Ax1 (List.length x.2) cx1) := ((World.cell?_alloc_lt _ _ _ b_26).trans ((World.cell?_alloc_lt _ _ _ b_26).trans (cell_new w _ _ 1 b_24)))
 have kb1_0 : (((w.alloc (.cells #[.int .i64 x.1, .slice Ax1 (List.length x.2) cx1] 55)).alloc (.cells #[.slice An0 (List.length n) cn0] 27)).alloc (.cells #[.int .i64 0, .slice none 0 0] 55)).cell? ⟨w.heap.size + 1, 0, none⟩ = some (.slice An0 (List.length n) cn0) := ((World.cell?_alloc_lt _ _ _ b_26).trans (cell_new (w.alloc (.cells #[.int .i64 x.1, .slice Ax1 (List.length x.2) cx1] 55)) _ _ 0 b_24))
 have kb2_0 : (((w.alloc (.cells #[.int .i64 x.1, .slice Ax1 (List.length x.2) cx1] 55)).alloc (.cells #[.slice An0 (List.length n) cn0] 27)).alloc (.cells #[.int .i64 0, .slice none 0 0] 55)).cell? ⟨w.heap.size + 1 + 1, 0, none⟩ = some (.int .i64 0) := (cell_new ((w.alloc (.cells #[.int .i64 x.1, .slice Ax1 (List.length x.2) cx1] 55)).alloc (.cells #[.slice An0 (List.length n) cn0] 27)) _ _ 0 b_24)
 have kb2_1 : (((w.alloc (.cells #[.int .i64 x.1, .slice Ax1 (List.length x.2) cx1] 55)).alloc (.cells #[.slice An0 (List.length n) cn0] 27)).alloc (.cells #[.int .i64 0, .slice none 0 0] 55)).cell? ⟨w.heap.size + 1 + 1, 1, none⟩ = some (.slice none 0 0) := (cell_new ((w.alloc (.cells #[.int .i64 x.1, .slice Ax1 (List.length x.2) cx1] 55)).alloc (.cells #[.slice An0 (List.length n) cn0] 27)) _ _ 1 b_24)
 have hvb : Below w.heap.size w (((w.alloc (.cells #[.int .i64 x.1, .slice Ax1 (List.length x.2) cx1] 55)).alloc (.cells #[.slice An0 (List.length n) cn0] 27)).alloc (.cells #[.int .i64 0, .slice none 0 0] 55)) := b_6
 have zb0 := Lib.hid (show (((w.alloc (.cells #[.int .i64 x.1, .slice Ax1 (List.length x.2) cx1] 55)).alloc (.cells #[.slice An0 (List.length n) cn0] 27)).alloc (.cells #[.int .i64 0, .slice none 0 0] 55)).heap.size = w.heap.size + 1 + 1 + 1 from by simp only [World.size_alloc])
 have zb : w.heap.size + 1 + 1 < (((w.alloc (.cells #[.int .i64 x.1, .slice Ax1 (List.length x.2) cx1] 55)).alloc (.cells #[.slice An0 (List.length n) cn0] 27)).alloc (.cells #[.int .i64 0, .slice none 0 0] 55)).heap.size := by simp only [World.size_alloc]; omega
 have hR0 : Blk (((w.alloc (.cells #[.int .i64 x.1, .slice Ax1 (List.length x.2) cx1] 55)).alloc (.cells #[.slice An0 (List.length n) cn0] 27)).alloc (.cells #[.int .i64 0, .slice none 0 0] 55)) (w.heap.size + 1 + 1) 55 #[.int .i64 0, .slice none 0 0] := by have := Blk.new ((w.alloc (.cells #[.int .i64 x.1, .slice Ax1 (List.length x.2) cx1] 55)).alloc (.cells #[.slice An0 (List.length n) cn0] 27)) 55 #[.int .i64 0, .slice none 0 0]; rwa [World.size_alloc, World.size_alloc] at this
 go_enter Try.func31, Try.ntmps31
 go_wp2_with fail
 generalize (((w.alloc (.cells #[.int .i64 x.1, .slice Ax1 (List.length x.2) cx1] 55)).alloc (.cells #[.slice An0 (List.length n) cn0] 27)).alloc (.cells #[.int .i64 0, .slice none 0 0] 55)) = WX at hR0 kb0_0 kb0_1 kb1_0 kb2_0 kb2_1 hvb zb zb0 ⊢
 have HC : Hid (∀ V, Below WX.heap.size WX V → V.cell? ⟨w.heap.size, 0, none⟩ = some (.int .i64 x.1) ∧ V.cell? ⟨w.heap.size, 1, none⟩ = some (.slice Ax1 (List.length x.2) cx1) ∧ V.cell? ⟨w.heap.size + 1, 0, none⟩ = some (.slice An0 (List.length n) cn0) ∧ V.cell? ⟨w.heap.size + 1 + 1, 0, none⟩ = some (.int .i64 0) ∧ V.cell? ⟨w.heap.size + 1 + 1, 1, none⟩ = some (.slice none 0 0)) := fun V hW => ⟨(hW.cell (p := ⟨w.heap.size, 0, none⟩) b_30).trans kb0_0, (hW.cell (p := ⟨w.heap.size, 1, none⟩) b_30).trans kb0_1, (hW.cell (p := ⟨w.heap.size + 1, 0, none⟩) b_30).trans kb1_0, (hW.cell (p := ⟨w.heap.size + 1 + 1, 0, none⟩) b_30).trans kb2_0, (hW.cell (p := ⟨w.heap.size + 1 + 1, 1, none⟩) b_30).trans kb2_1⟩
 clear kb0_0 kb0_1 kb1_0 kb2_0 kb2_1
 have hcp := C_spec_l12Copy WX _ x (Ty.rd_below hvb h1) s0
 rw [keep_all] at hcp
 refine hcp.mono ?_
 rintro e w1 ⟨cs9, fp1, rfl, how1, hfr1, hb1⟩
 clear hcp
 obtain ⟨Aq1, cq1, rfl⟩ := ow_ContentStore how1
 obtain ⟨d1, d2, f1, f2, hdd, hff, ⟨⟨hdi, _⟩, hf1⟩, howe⟩ := how1
 have hd2 : d2 = [.slice Aq1 (List.length x.2) cq1] := by rw [hdi] at hdd; simpa using hdd.symm
 have hfp : fp1 = f2 := by rw [hff, hf1]; rfl
 subst hd2; subst hfp
 have how1 : Ty.ow w1 (.sl tCacheEntry) [.slice Aq1 (List.length x.2) cq1] x.2 fp1 := howe
 clear howe hdd hff hdi hf1
 have hz1 := hb1.size
 have hO0 : Blk (w1.alloc (.cells #[.int .i64 x.1, .slice Aq1 (List.length x.2) cq1] 55)) w1.heap.size 55 #[.int .i64 x.1, .slice Aq1 (List.length x.2) cq1] := Blk.new _ _ _
 have hvo : Below w1.heap.size w1 (w1.alloc (.cells #[.int .i64 x.1, .slice Aq1 (List.length x.2) cq1] 55)) := b_6
 have zo : w1.heap.size < (w1.alloc (.cells #[.int .i64 x.1, .slice Aq1 (List.length x.2) cq1] 55)).heap.size := by rw [World.size_alloc]; omega
 obtain ⟨j0, j1, j2, j3, j4⟩ := HC.out _ (hb1)
 have zw0 : w.heap.size < w1.heap.size := by omega
 have zw1 : w.heap.size + 1 < w1.heap.size := by omega
 go_wp2_with fail
 clear j0 j1 j2 j3 j4
 generalize (w1.alloc (.cells #[.int .i64 x.1, .slice Aq1 (List.length x.2) cq1] 55)) = WO at hO0 hvo zo ⊢
 have hx0 : Below WX.heap.size WX WO := bel_trans hb1 hvo
 refine (C_spec_l12Find _ _ x.2 _ n (Ty.rd_below (bel_trans hvb hx0) xg1) (Ty.rd_below (bel_trans hvb hx0) h2)).mono ?_
 rintro e w2 ⟨rfl, hb2⟩
 have h12 : Below w1.heap.size w1 w2 := bel_trans hvo hb2
 have hsw := hb2.size
 rcases ixf_cases (entName n) x.2 with ⟨hi, hn⟩ | ⟨k, hlt, hi, ht, hq⟩
 ·rw [hi]
  have HE := Lib.hid hn
  clear hi hn
  have hE : touchE n now x.2 = x.2 := touchE_miss HE.out
  have hw9 : Below w.heap.size w w2 := bel_trans hvb (bel_trans hx0 hb2)
  have hO8 := hO0.below hb2 hO0.lt
  have hR8 := (hR0.below hx0 hR0.lt).below hb2 (hR0.below hx0 hR0.lt).lt
  have kR_8_0 : w2.cell? ⟨w.heap.size + 1 + 1, 0, none⟩ = some (.int .i64 0) := hR8.cell 0
  have fR_8_0 : w2.frozen? ⟨w.heap.size + 1 + 1, 0, none⟩ = false := hR8.frozen 0
  have kR_8_1 : w2.cell? ⟨w.heap.size + 1 + 1, 1, none⟩ = some (.slice none 0 0) := hR8.cell 1
  have fR_8_1 : w2.frozen? ⟨w.heap.size + 1 + 1, 1, none⟩ = false := hR8.frozen 1
  have zR_8 : w.heap.size + 1 + 1 < w2.heap.size := hR8.lt
  have kO_8_0 : w2.cell? ⟨w1.heap.size, 0, none⟩ = some (.int .i64 x.1) := hO8.cell 0
  have fO_8_0 : w2.frozen? ⟨w1.heap.size, 0, none⟩ = false := hO8.frozen 0
  have kO_8_1 : w2.cell? ⟨w1.heap.size, 1, none⟩ = some (.slice Aq1 (List.length x.2) cq1) := hO8.cell 1
  have fO_8_1 : w2.frozen? ⟨w1.heap.size, 1, none⟩ = false := hO8.frozen 1
  have zO_8 : w1.heap.size < w2.heap.size := hO8.lt
  go_wp2
  refine bodyPost_ret (v := .agg #[.int .i64 x.1, .slice Aq1 (List.length x.2) cq1]) (by simp [results, Try.results31, go_sem, kR_8_0, fR_8_0, kR_8_1, fR_8_1, kO_8_0, fO_8_0, kO_8_1, fO_8_1, zR_8, zO_8]) rfl ?_
  rw [HF.out, hE]
  exact ⟨_, fp1, rfl, ow_ContentStore_mk (x := (x.1, x.2)) xg0 (Ty.ow_keep (by intro b hb'; have hb'' := (hfr1).2 b hb'; (try simp only [szz] at hb''); repeat (first | (with_reducible rfl) | (rw [Below.heap_setCell _ _ _ _ b_29]) | (rw [Below.heap_alloc _ _ _ b_20]) | (rw [h12.block _ b_27]))) how1), hfr1.mono b_34 b_23, b_6⟩
 ·rw [hi]
  have HT := Lib.hid ht
  have HQ := Lib.hid hq
  clear hi ht hq
  have i0 : (0 : Int) ≤ (k : Int) := by omega
  have i1 : (k : Int) < (List.length x.2 : Int) := by omega
  obtain ⟨b, o, dse, rfl, hle, hcelle, hrde⟩ := Ty.rd_at (Ty.rd_below h12 (Ty.ow_rd how1)) hlt
  have hrde' := hrde
  obtain ⟨Ae00, ce00, Ae01, ce01, Ae02, ce02, rfl, eg0, eg1⟩ := rd_CacheEntry hrde
  have e0 : w2.cell? ⟨b, o + k * 6, none⟩ = some (.slice Ae00 (List.length (x.2)[k].1.1) ce00) := by simpa [Ty.sz] using hcelle 0 b_33
  have e1 : w2.cell? ⟨b, o + k * 6 + 1, none⟩ = some (.slice Ae01 (List.length (x.2)[k].1.2.1) ce01) := by simpa [Ty.sz] using hcelle 1 b_33
  have e2 : w2.cell? ⟨b, o + k * 6 + 2, none⟩ = some (.slice Ae02 (List.length (x.2)[k].1.2.2.1) ce02) := by simpa [Ty.sz] using hcelle 2 b_33
  have e3 : w2.cell? ⟨b, o + k * 6 + 3, none⟩ = some (.int .i64 (x.2)[k].1.2.2.2.1) := by simpa [Ty.sz] using hcelle 3 b_33
  have e4 : w2.cell? ⟨b, o + k * 6 + 4, none⟩ = some (.int .i64 (x.2)[k].1.2.2.2.2) := by simpa [Ty.sz] using hcelle 4 b_33
  have e5 : w2.cell? ⟨b, o + k * 6 + 5, none⟩ = some (.int .i64 (x.2)[k].2) := by simpa [Ty.sz] using hcelle 5 b_33
  clear hcelle hle
  have HIX := Lib.hid (touchE_hit (now := now) (ixf_hit (entName n) x.2 hlt HT.out HQ.out))
  obtain ⟨b9, o9, hA9, hb9, hfz⟩ := Ty.ow_at how1 hlt
  injection hA9 with hA9
  injection hA9 with hA91 hA92
  subst hA91; subst hA92
  have hbl : b < w1.heap.size := Ty.ow_lt how1 b hb9
  have h9 : Below w1.heap.size w1 w2 := h12
  have hx9 : Below WO.heap.size WO w2 := hb2
  have c9 : w2.cell? ⟨b, o + k * 6 + 5, none⟩ = some (.int .i64 (x.2)[k].2) := e5
  have f9 : w2.frozen? ⟨b, o + k * 6 + 5, none⟩ = false := (h9.frozen (p := ⟨b, o + k * 6 + 5, none⟩) hbl).trans (hfz 5 b_33)
  have z9 : b < w2.heap.size := Nat.lt_of_lt_of_le hbl h9.size
  have hO8 : Blk w2 w1.heap.size 55 #[.int .i64 x.1, .slice (some ⟨b, o, none⟩) (List.length x.2) cq1] := hO0.below hx9 hO0.lt
  have hR8 : Blk w2 (w.heap.size + 1 + 1) 55 #[.int .i64 0, .slice none 0 0] := (hR0.below hx0 hR0.lt).below hx9 (hR0.below hx0 hR0.lt).lt
  have kR_8_0 : w2.cell? ⟨w.heap.size + 1 + 1, 0, none⟩ = some (.int .i64 0) := hR8.cell 0
  have fR_8_0 : w2.frozen? ⟨w.heap.size + 1 + 1, 0, none⟩ = false := hR8.frozen 0
  have kR_8_1 : w2.cell? ⟨w.heap.size + 1 + 1, 1, none⟩ = some (.slice none 0 0) := hR8.cell 1
  have fR_8_1 : w2.frozen? ⟨w.heap.size + 1 + 1, 1, none⟩ = false := hR8.frozen 1
  have zR_8 : w.heap.size + 1 + 1 < w2.heap.size := hR8.lt
  have kO_8_0 : w2.cell? ⟨w1.heap.size, 0, none⟩ = some (.int .i64 x.1) := hO8.cell 0
  have fO_8_0 : w2.frozen? ⟨w1.heap.size, 0, none⟩ = false := hO8.frozen 0
  have kO_8_1 : w2.cell? ⟨w1.heap.size, 1, none⟩ = some (.slice (some ⟨b, o, none⟩) (List.length x.2) cq1) := hO8.cell 1
  have fO_8_1 : w2.frozen? ⟨w1.heap.size, 1, none⟩ = false := hO8.frozen 1
  have zO_8 : w1.heap.size < w2.heap.size := hO8.lt
  have hn1 : w1.heap.size ≠ b := by omega
  have hn2 : w.heap.size + 1 + 1 ≠ b := fun e => by have := (hfr1.2 b hb9).1; omega
  have hn3 : b ≠ w1.heap.size := by omega
  have hn4 : b ≠ w.heap.size + 1 + 1 := fun e => hn2 e.symm
  have hn5 : w1.heap.size ≠ w.heap.size + 1 + 1 := by omega
  have hn6 : w.heap.size + 1 + 1 ≠ w1.heap.size := by omega
  have hw9 : Below w.heap.size w w2 := bel_trans hvb (bel_trans hx0 hx9)
  have hwb : w.heap.size ≤ b := by have := (hfr1.2 b hb9).1; omega
  have how9 := ow_setUsed (Ty.ow_bel h9 how1) hlt hfr1.1 i2
  clear e0 e1 e2 e3 e4 e5
  go_wp2
  refine bodyPost_ret (v := .agg #[.int .i64 x.1, .slice (some ⟨b, o, none⟩) (List.length x.2) cq1]) (by simp [results, Try.results31, go_sem, c9, f9, z9, kR_8_0, fR_8_0, kR_8_1, fR_8_1, kO_8_0, fO_8_0, kO_8_1, fO_8_1, zR_8, zO_8, hn1, hn2, hn3, hn4, hn5, hn6]) rfl ?_
  rw [HF.out, HIX.out]
  have hlu := setUsed_len x.2 k now
  exact ⟨_, fp1, rfl, ow_ContentStore_mk' (x := (x.1, setUsed x.2 k now)) hlu.symm xg0 (Ty.ow_keep b_5 how9), hfr1.mono b_34 b_23, b_6⟩
end Go.Proofs.Ytldgbnlcnlfmeaa
namespace Go.Proofs.Ytldgbnlcnlfmeaa
open Go.RowKit
set_option linter.unusedVariables false
set_option linter.unusedSimpArgs false
set_option maxRecDepth 100000 in
set_option maxHeartbeats 2000000 in
theorem C_slices_Delete_CE (w : World) (v : Value) (x : List (Ty.D tCacheEntry)) (k base : Nat) (fp : List Nat) (h : DRowF tCacheEntry w base 127 v x fp) (hk : k < x.length) (hx : x.length ≤ 1099511627776) :
  Calls Try.prog 96 #[v, .int .i64 k, .int .i64 (k + 1 : Int)] w (fun e w' => ∃ v' fp', e = .returned v' ∧ DRowF tCacheEntry w' base 127 v' (dropAt x k) fp' ∧ List.Sublist fp' fp ∧ v'.ownBlock = v.ownBlock ∧ w.grownBy w' v.ownBlock) := by
 obtain ⟨g, cap, cur, css, fs, rfl, hbg, hB, hnc, hcm, hcs, htake, h2, rfl, h4⟩ := h.parts b_34
 have hgl : g < w.heap.size := hB.lt
 have hcs' : cur.size = cap * 6 := hcs
 have hlen : cur.toList.length = cap * 6 := by rw [Array.length_toList]; exact hcs
 have hones : ∀ u ∈ cur.toList.take (x.length * 6), u.oneCell' = true := by
  intro u hu
  have hu' : u ∈ cur.toList.take (x.length * Ty.sz tCacheEntry) := hu
  rw [htake] at hu'
  obtain ⟨i, hi, hu'⟩ := List.mem_flatMap.1 hu'
  exact Ty.ow_ones (h2 i (List.mem_range.1 hi)).2 u hu'
 have hnewsl : ((cur.toList.take (x.length * 6)).drop ((k + 1) * 6)).length = (x.length - (k + 1)) * 6 := by
  rw [List.length_drop, List.length_take, hlen]; omega
 obtain ⟨A, hA, hsrc⟩ : ∃ A : Addr, (if cap = k + 1 then some (⟨g, 0, none⟩ : Addr) else some ⟨g, (k + 1) * 6, none⟩) = some A ∧ Hid (∀ j u, ((cur.toList.take (x.length * 6)).drop ((k + 1) * 6))[j]? = some u → ∀ W, Blk W g 127 cur → W.cell? (A.add j) = some u) := by
  by_cases hc : cap = k + 1
  ·refine ⟨⟨g, 0, none⟩, by simp [hc], fun j u hu => ?_⟩
   have h0 : ((cur.toList.take (x.length * 6)).drop ((k + 1) * 6)).length = 0 := by rw [hnewsl]; omega
   rw [List.length_eq_zero_iff.1 h0] at hu
   simp at hu
  ·refine ⟨⟨g, (k + 1) * 6, none⟩, by simp [hc], fun j u hu W hW => ?_⟩
   have hj := (List.getElem?_eq_some_iff.1 hu).1
   rw [hnewsl] at hj
   rw [List.getElem?_drop, List.getElem?_take_of_lt b_34, Array.getElem?_toList] at hu
   rw [Addr.add_lit, hW.cell, hu]
 have i0 : (0 : Int) ≤ (k : Int) := by omega
 have i1 : (k : Int) ≤ (k : Int) + 1 := by omega
 have i2 : (k : Int) + 1 ≤ (x.length : Int) := by omega
 have i3 : (x.length : Int) ≤ (cap : Int) := by omega
 have i4 : (0 : Int) ≤ (k : Int) + 1 := by omega
 have i5 : (k : Int) ≤ (cap : Int) := by omega
 have i6 : (k : Int) + 1 ≤ (cap : Int) := by omega
 have q1 : ((k : Int) == (k : Int) + 1) = false := by rw [beq_eq_false_iff_ne]; omega
 go_enter Try.func96, Try.ntmps96
 go_wp2_with fail
 refine wp_region_noPanic ?_
 refine wp_region_held_drew (S := (fun W => True)) b_31 ?_ (fun hHeld => ?_)
 ·trivial
 refine tkz4 0 1 2 3 ?_
 try simp only [layz]
 refine tkz2 4 5 ?_
 try simp only [layz]
 refine rz1 6 (fun K hK => ?_)
 refine step_append_blk b_35 _ _ 53 b_35 127 info_CacheEntry Try.underlying53 g k cap cur hB.drew b_35 A (x.length - (k + 1)) (cap - (k + 1)) ((cur.toList.take (x.length * 6)).drop ((k + 1) * 6)) b_35 hnewsl (fun j u hj => hsrc.out j u hj _ hB.drew) (fun u hu => hones u (List.mem_of_mem_drop hu)) b_34 (by rw [hnewsl]; omega) ?_
 intro W1 cur1 hB1 hs1 hl1 hg1 hz1
 refine hK.out _ _ trivial (fun hHeld => ?_)
 clear hK K
 try simp only [layz]
 refine tkz 7 ?_
 try simp only [layz]
 refine wpAnyH_done b_31 ?_ _
 refine NoPanic.normal ?_
 have hkm : k + (x.length - (k + 1)) = x.length - 1 := by omega
 have i7 : (x.length - 1 : Nat) < x.length := by omega
 have i8 : cap ≠ x.length - 1 := by omega
 have i9 : cap ≠ k + (x.length - (k + 1)) := by omega
 have HL1 := Lib.hid hl1
 have HNL := Lib.hid hnewsl
 have HTK := Lib.hid htake
 clear hl1 hnewsl hA hsrc hones htake
 obtain ⟨n1, hn1⟩ : ∃ n1, n1 = k + (x.length - (k + 1)) := ⟨_, rfl⟩
 rw [← hn1]
 have j0 : n1 + 1 = x.length := by omega
 have j1 : n1 ≤ x.length := by omega
 have j2 : n1 ≤ cap := by omega
 have j3 : (n1 : Int) ≤ (x.length : Int) := by omega
 have j4 : cap ≠ n1 := by omega
 have j5 : x.length - n1 = 1 := by omega
 clear hn1 hkm i7 i8 i9
 obtain ⟨W2, cur2, hcl, hB2, hs2, hl2, hg2, hz2⟩ := run_clear_row (P := Try.prog) 53 127 0 Try.underlying53 Try.zeroValue127 b_33 g (n1 * 6) 1 (cap - n1) b_34 cur1 hB1 (by rw [hs1, hcs']; show n1 * 6 + 1 * 6 ≤ cap * 6; omega)
 go_wp2
 go_ret
 refine ⟨_, fpDrop fs x.length k, rfl, ?_, fpDrop_sub fs hk, rfl, World.grownBy.trans (b := W1) ⟨hg1.os, hg1.tape, hg1.output, hg1.size, hg1.block⟩ hg2⟩
 have hnn : x.length - 1 = n1 := by omega
 rw [← hnn]
 refine DRowF.dropped (w := w) hbg hnc hcm HTK.out h2 h4 hk hB2 (by rw [hs2, hs1]; exact hcs) ?_ (fun b hb2 hb3 => ?_)
 ·show cur2.toList.take ((x.length - 1) * 6) = cur.toList.take (k * 6) ++ (cur.toList.take (x.length * 6)).drop ((k + 1) * 6)
  rw [hnn, hl2, HL1.out, List.take_append_of_le_length (by rw [List.length_append, HNL.out, List.length_take, hlen]; omega), List.take_of_length_le (by rw [List.length_append, HNL.out, List.length_take, hlen]; omega)]
 ·have e1 := hg2.block b (by rw [hz1]; exact hb2) (fun e => hb3 (by simpa using e))
  have e2 := hg1.block b hb2 (fun e => hb3 (by simpa using e))
  exact e1.trans e2
set_option maxRecDepth 100000 in
set_option maxHeartbeats 2000000 in
theorem C_spec_l12Without (w : World) (v : Value) (x : List (Ty.D tCacheEntry)) (k base : Nat) (fp : List Nat) (h : DRowF tCacheEntry w base 127 v x fp) (hk : k < x.length) (hx : x.length ≤ 1099511627) (hbase : base ≤ w.heap.size) :
  Calls Try.prog 105 #[v, .int .i64 k] w (fun e w' => ∃ v' fp', e = .returned v' ∧ DRowF tCacheEntry w' base 127 v' (dropAt x k) fp' ∧ List.Sublist fp' fp ∧ (∀ g, v'.ownBlock = some g → w.heap.size ≤ g) ∧ Below w.heap.size w w') := by
 obtain ⟨g, cap, cur, css, fs, rfl, hbg, hB, hnc, hcm, hcs, htake, h2, rfl, h4⟩ := h.parts b_34
 have hgl : g < w.heap.size := hB.lt
 obtain ⟨A, hA, hAk⟩ : ∃ A : Addr, (if cap = k + 1 then some (⟨g, 0, none⟩ : Addr) else some ⟨g, (k + 1) * 6, none⟩) = some A ∧ Hid (k + 1 < x.length → A = ⟨g, (k + 1) * Ty.sz tCacheEntry, none⟩) := by
  by_cases hc : cap = k + 1
  ·exact ⟨⟨g, 0, none⟩, by simp [hc], fun h => by omega⟩
  ·exact ⟨⟨g, (k + 1) * 6, none⟩, by simp [hc], fun _ => rfl⟩
 have hs1 := Lib.hid (SrcF.head (cap := cap) hB htake h2 (Nat.le_of_lt hk))
 have hs2 := Lib.hid (SrcF.tail (c := cap - (k + 1)) (k := k + 1) hB htake h2 hAk.out)
 have HSUB : Hid (List.Sublist (fpDrop fs x.length k) ((List.range x.length).flatMap fs)) := fpDrop_sub fs hk
 have hmlt := h.mem_lt
 have hq1 : Hid (∀ b ∈ (List.range k).flatMap fs, b < w.heap.size) := fun b hb => hmlt b (HSUB.out.subset (List.mem_append_left _ hb))
 have hq2 : Hid (∀ b ∈ (List.range (x.length - (k + 1))).flatMap (fun i => fs (k + 1 + i)), b < w.heap.size) := fun b hb => hmlt b (HSUB.out.subset (List.mem_append_right _ hb))
 have i0 : (0 : Int) ≤ (k : Int) := by omega
 have i2 : (k : Int) + 1 ≤ (x.length : Int) := by omega
 have i3 : (x.length : Int) ≤ (cap : Int) := by omega
 have i4 : (0 : Int) ≤ (k : Int) + 1 := by omega
 have i5 : (k : Int) ≤ (cap : Int) := by omega
 have i6 : (k : Int) + 1 ≤ (cap : Int) := by omega
 have i7 : IntKind.i64.wrap ((k : Int) + 1) = (k : Int) + 1 := IntWalk.i64_in _ b_34
 clear htake
 go_enter Try.func105, Try.ntmps105
 go_wp2_with fail
 refine wp_region_noPanic ?_
 refine wp_region_held_drew (S := (fun W => True)) b_31 ?_ (fun hHeld => ?_)
 ·trivial
 refine tkz4 1 2 3 5 ?_
 try simp only [layz]
 refine tkz3 6 7 8 ?_
 try simp only [layz]
 refine rz1 0 (fun K hK => ?_)
 go_simp
 refine hK.out _ _ trivial (fun hHeld => ?_)
 clear hK K
 try simp only [layz]
 refine rz1 4 (fun K hK => ?_)
 refine step_append_drowF b_35 _ _ 53 b_35 base 127 info_CacheEntry rfl Try.underlying53 _ _ [] (x.take k) [] _ b_35 b_35 (DRowF.lit0 tCacheEntry w.drew 127 hbase) (hs1.out.keepB (fun b hb => heap_alloc_old w.drew _ hb)) (fun g' hg' hm => by have := hq1.out g' hm; have := ob_lit hg'; simp only [World.size_drew] at this; omega) (by simp only [List.length_nil, List.length_take]; omega) (by simp only [List.length_nil, List.length_take]; unfold maxLen; omega) (by simp only [World.size_alloc, World.size_drew]; omega) ?_
 intro v1 W1 hr1 hg1 ho1
 refine hK.out _ _ trivial (fun hHeld => ?_)
 clear hK K
 try simp only [layz]
 have hold1 : ∀ b, b < w.heap.size → W1.heap[b]? = w.heap[b]? := fun b hb => (hg1.block b (by simp only [World.size_alloc, World.size_drew]; omega) (fun e => by have := ob_lit e.symm; simp only [World.size_drew] at this; omega)).trans (heap_alloc_old w.drew _ hb)
 have hsz1 : w.heap.size ≤ W1.heap.size := by have := hg1.size; simp only [World.size_alloc, World.size_drew] at this; omega
 have ho1' : ∀ g', v1.ownBlock = some g' → w.heap.size ≤ g' := by
  intro g' hg'
  rcases ho1 with ho1 | ho1
  ·rw [ho1] at hg'
   have := ob_lit hg'
   simp only [World.size_drew] at this
   omega
  ·rw [ho1] at hg'
   simp only [World.size_alloc, World.size_drew, Option.some.injEq] at hg'
   omega
 have hr1' : DRowF tCacheEntry W1 base 127 v1 (x.take k) ((List.range k).flatMap fs) := hr1
 clear hr1
 refine rz1 9 (fun K hK => ?_)
 refine step_append_drowF b_35 _ _ 53 b_35 base 127 info_CacheEntry rfl Try.underlying53 _ _ (x.take k) (x.drop (k + 1)) _ _ b_35 b_35 hr1' (hs2.out.keepB hold1) (fun g' hg' hm => by have := hq2.out g' hm; have := ho1' g' hg'; omega) (by simp only [List.length_take, List.length_drop]; omega) (by simp only [List.length_take, List.length_drop]; unfold maxLen; omega) b_34 ?_
 intro v2 W2 hr2 hg2 ho2
 refine hK.out _ _ trivial (fun hHeld => ?_)
 clear hK K
 try simp only [layz]
 have hsz2 : w.heap.size ≤ W2.heap.size := Nat.le_trans hsz1 hg2.size
 have hfin : DRowF tCacheEntry W2 base 127 v2 (dropAt x k) (fpDrop fs x.length k) := hr2
 have HO2 : Hid (∀ g', v2.ownBlock = some g' → w.heap.size ≤ g') := by
  intro g' hg'
  rcases ho2 with ho2 | ho2
  ·exact ho1' g' (by rw [← ho2]; exact hg')
  ·rw [ho2] at hg'
   simp only [Option.some.injEq] at hg'
   omega
 have HFIN := Lib.hid hfin
 have hbel : Below w.heap.size w W2 := ⟨hg2.os.trans hg1.os, hg2.tape.trans hg1.tape, hg2.output.trans hg1.output, hsz2, fun b hb => (hg2.block b b_34 (fun e => by have := ho1' b e.symm; omega)).trans (hold1 b hb)⟩
 clear hfin hr2 hr1'
 refine tkz 10 ?_
 try simp only [layz]
 refine wpAnyH_done b_31 ?_ _
 refine NoPanic.normal ?_
 go_wp2
 go_ret
 exact ⟨_, _, rfl, HFIN.out, HSUB.out, HO2.out, hbel⟩
end Go.Proofs.Ytldgbnlcnlfmeaa
