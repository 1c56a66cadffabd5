/- Texts of this claim, merged by a program: Clk Cpl Lat. -/
import Derived.Test.YtldgbnlcnlfmeaaQcP
import Derived.Test.YtldgbnlcnlfmeaaQc5
import Derived.Test.YtldgbnlcnlfmeaaQc0
import Derived.Test.YtldgbnlcnlfmeaaQc7
import Derived.BigQuiet
namespace Go.Proofs.Ytldgbnlcnlfmeaa
open Go.RowKit
set_option linter.unusedVariables false
set_option linter.unusedSimpArgs false
def lookP (n : List (List UInt8)) (now : Int) (e : Ty.D tCacheEntry) : Bool := entName n e && f_FreshAt e.1 now
def noData : Ty.D tData := ([], [], [], 0, 0)
def f1_CacheLookup (x : Ty.D tContentStore) (n : List (List UInt8)) (now : Int) : Bool := x.2.any (lookP n now)
def f0_CacheLookup (x : Ty.D tContentStore) (n : List (List UInt8)) (now : Int) : Ty.D tData := match x.2.find? (lookP n now) with | some e => e.1 | none => noData
theorem ow_zeroData (w : World) : Ty.ow w tData [.slice none 0 0, .slice none 0 0, .slice none 0 0, .int .i64 0, .int .i64 0] noData [] :=
 ow_Data_mk (x := noData) (rd_ow_nil w _) (rd_ow_nil w _) (rd_ow_nil w _) ⟨by decide, by decide⟩ ⟨by decide, by decide⟩
set_option maxRecDepth 100000 in
set_option maxHeartbeats 2000000 in
theorem C_impl_CacheLookup (w : World) (cs1 : List Value) (x : Ty.D tContentStore) (cs2 : List Value) (n : List (List UInt8)) (now : Int) (h1 : Ty.rd w tContentStore cs1 x) (h2 : (Ty.sl .str).rd w cs2 n) (s0 : Ty.bulk tContentStore x ≤ 1048576) (s1 : Ty.bulk (.sl .str) n ≤ 1048576) (i2 : -9223372036854775808 ≤ now ∧ now ≤ 9223372036854775807) :
  Calls Try.prog 22 #[.agg cs1.toArray, .agg cs2.toArray, .int .i64 now] w (RetAgg2 w tData (f0_CacheLookup x n now) (.bool (f1_CacheLookup x n now))) := by
 obtain ⟨Ax1, cx1, rfl, xg0, xg1⟩ := rd_ContentStore h1
 obtain ⟨An0, cn0, rfl⟩ := Ty.rd_slv h2
 have s0e := store_bulk' s0
 have hxl := Ty.bulk_len s0e
 obtain ⟨_, _, _, m7, _, m9⟩ := Ty.rd_sl xg1
 have hF0 : f0_CacheLookup x n now = (match x.2.find? (lookP n now) with | some e => e.1 | none => noData) := rfl
 have hF1 : f1_CacheLookup x n now = x.2.any (lookP n now) := rfl
 generalize f0_CacheLookup x n now = F0 at hF0 ⊢
 generalize f1_CacheLookup x n now = F1 at hF1 ⊢
 have HQ0 := Lib.hid hF0
 have HQ1 := Lib.hid hF1
 clear hF0 hF1
 have kb0_0 : (((w.alloc (.cells #[.int .i64 x.1, .slice Ax1 (List.length x.2) cx1] 55)).alloc (.cells #[.slice An0 (List.length n) cn0] 27)).alloc (.cells #[.slice none 0 0, .slice none 0 0, .slice none 0 0, .int .i64 0, .int .i64 0] 46)).cell? ⟨w.heap.size, 0, none⟩ = some (.int .i64 x.1) := ((World.cell?_alloc_lt _ _ _ b_26).trans ((World.cell?_alloc_lt _ _ _ b_26).trans (cell_new w _ _ 0 b_24)))
 have kb0_1 : (((w.alloc (.cells #[.int .i64 x.1, .slice Ax1 (List.length x.2) cx1] 55)).alloc (.cells #[.slice An0 (List.length n) cn0] 27)).alloc (.cells #[.slice none 0 0, .slice none 0 0, .slice none 0 0, .int .i64 0, .int .i64 0] 46)).cell? ⟨w.heap.size, 1, none⟩ = some (.slice Ax1 (List.length x.2) cx1) := ((World.cell?_alloc_lt _ _ _ b_26).trans ((World.cell?_alloc_lt _ _ _ b_26).trans (cell_new w _ _ 1 b_24)))
 have kb1_0 : (((w.alloc (.cells #[.int .i64 x.1, .slice Ax1 (List.length x.2) cx1] 55)).alloc (.cells #[.slice An0 (List.length n) cn0] 27)).alloc (.cells #[.slice none 0 0, .slice none 0 0, .slice none 0 0, .int .i64 0, .int .i64 0] 46)).cell? ⟨w.heap.size + 1, 0, none⟩ = some (.slice An0 (List.length n) cn0) := ((World.cell?_alloc_lt _ _ _ b_26).trans (cell_new (w.alloc (.cells #[.int .i64 x.1, .slice Ax1 (List.length x.2) cx1] 55)) _ _ 0 b_24))
 have kb2_0 : (((w.alloc (.cells #[.int .i64 x.1, .slice Ax1 (List.length x.2) cx1] 55)).alloc (.cells #[.slice An0 (List.length n) cn0] 27)).alloc (.cells #[.slice none 0 0, .slice none 0 0, .slice none 0 0, .int .i64 0, .int .i64 0] 46)).cell? ⟨w.heap.size + 1 + 1, 0, none⟩ = some (.slice none 0 0) := (cell_new ((w.alloc (.cells #[.int .i64 x.1, .slice Ax1 (List.length x.2) cx1] 55)).alloc (.cells #[.slice An0 (List.length n) cn0] 27)) _ _ 0 b_24)
 have kb2_1 : (((w.alloc (.cells #[.int .i64 x.1, .slice Ax1 (List.length x.2) cx1] 55)).alloc (.cells #[.slice An0 (List.length n) cn0] 27)).alloc (.cells #[.slice none 0 0, .slice none 0 0, .slice none 0 0, .int .i64 0, .int .i64 0] 46)).cell? ⟨w.heap.size + 1 + 1, 1, none⟩ = some (.slice none 0 0) := (cell_new ((w.alloc (.cells #[.int .i64 x.1, .slice Ax1 (List.length x.2) cx1] 55)).alloc (.cells #[.slice An0 (List.length n) cn0] 27)) _ _ 1 b_24)
 have kb2_2 : (((w.alloc (.cells #[.int .i64 x.1, .slice Ax1 (List.length x.2) cx1] 55)).alloc (.cells #[.slice An0 (List.length n) cn0] 27)).alloc (.cells #[.slice none 0 0, .slice none 0 0, .slice none 0 0, .int .i64 0, .int .i64 0] 46)).cell? ⟨w.heap.size + 1 + 1, 2, none⟩ = some (.slice none 0 0) := (cell_new ((w.alloc (.cells #[.int .i64 x.1, .slice Ax1 (List.length x.2) cx1] 55)).alloc (.cells #[.slice An0 (List.length n) cn0] 27)) _ _ 2 b_24)
 have kb2_3 : (((w.alloc (.cells #[.int .i64 x.1, .slice Ax1 (List.length x.2) cx1] 55)).alloc (.cells #[.slice An0 (List.length n) cn0] 27)).alloc (.cells #[.slice none 0 0, .slice none 0 0, .slice none 0 0, .int .i64 0, .int .i64 0] 46)).cell? ⟨w.heap.size + 1 + 1, 3, none⟩ = some (.int .i64 0) := (cell_new ((w.alloc (.cells #[.int .i64 x.1, .slice Ax1 (List.length x.2) cx1] 55)).alloc (.cells #[.slice An0 (List.length n) cn0] 27)) _ _ 3 b_24)
 have kb2_4 : (((w.alloc (.cells #[.int .i64 x.1, .slice Ax1 (List.length x.2) cx1] 55)).alloc (.cells #[.slice An0 (List.length n) cn0] 27)).alloc (.cells #[.slice none 0 0, .slice none 0 0, .slice none 0 0, .int .i64 0, .int .i64 0] 46)).cell? ⟨w.heap.size + 1 + 1, 4, none⟩ = some (.int .i64 0) := (cell_new ((w.alloc (.cells #[.int .i64 x.1, .slice Ax1 (List.length x.2) cx1] 55)).alloc (.cells #[.slice An0 (List.length n) cn0] 27)) _ _ 4 b_24)
 have hvb : Below w.heap.size w (((w.alloc (.cells #[.int .i64 x.1, .slice Ax1 (List.length x.2) cx1] 55)).alloc (.cells #[.slice An0 (List.length n) cn0] 27)).alloc (.cells #[.slice none 0 0, .slice none 0 0, .slice none 0 0, .int .i64 0, .int .i64 0] 46)) := b_6
 have zb0 := Lib.hid (show (((w.alloc (.cells #[.int .i64 x.1, .slice Ax1 (List.length x.2) cx1] 55)).alloc (.cells #[.slice An0 (List.length n) cn0] 27)).alloc (.cells #[.slice none 0 0, .slice none 0 0, .slice none 0 0, .int .i64 0, .int .i64 0] 46)).heap.size = w.heap.size + 1 + 1 + 1 from by simp only [World.size_alloc])
 have zb : w.heap.size + 1 + 1 < (((w.alloc (.cells #[.int .i64 x.1, .slice Ax1 (List.length x.2) cx1] 55)).alloc (.cells #[.slice An0 (List.length n) cn0] 27)).alloc (.cells #[.slice none 0 0, .slice none 0 0, .slice none 0 0, .int .i64 0, .int .i64 0] 46)).heap.size := by simp only [World.size_alloc]; omega
 have hR0 : Blk (((w.alloc (.cells #[.int .i64 x.1, .slice Ax1 (List.length x.2) cx1] 55)).alloc (.cells #[.slice An0 (List.length n) cn0] 27)).alloc (.cells #[.slice none 0 0, .slice none 0 0, .slice none 0 0, .int .i64 0, .int .i64 0] 46)) (w.heap.size + 1 + 1) 46 #[.slice none 0 0, .slice none 0 0, .slice none 0 0, .int .i64 0, .int .i64 0] := by have := Blk.new ((w.alloc (.cells #[.int .i64 x.1, .slice Ax1 (List.length x.2) cx1] 55)).alloc (.cells #[.slice An0 (List.length n) cn0] 27)) 46 #[.slice none 0 0, .slice none 0 0, .slice none 0 0, .int .i64 0, .int .i64 0]; rwa [World.size_alloc, World.size_alloc] at this
 go_enter Try.func22, Try.ntmps22
 go_wp2
 generalize (((w.alloc (.cells #[.int .i64 x.1, .slice Ax1 (List.length x.2) cx1] 55)).alloc (.cells #[.slice An0 (List.length n) cn0] 27)).alloc (.cells #[.slice none 0 0, .slice none 0 0, .slice none 0 0, .int .i64 0, .int .i64 0] 46)) = WX at hR0 kb0_0 kb0_1 kb1_0 kb2_0 kb2_1 kb2_2 kb2_3 kb2_4 hvb zb zb0 ⊢
 have HC : Hid (∀ V, Below WX.heap.size WX V → V.cell? ⟨w.heap.size, 0, none⟩ = some (.int .i64 x.1) ∧ V.cell? ⟨w.heap.size, 1, none⟩ = some (.slice Ax1 (List.length x.2) cx1) ∧ V.cell? ⟨w.heap.size + 1, 0, none⟩ = some (.slice An0 (List.length n) cn0) ∧ V.cell? ⟨w.heap.size + 1 + 1, 0, none⟩ = some (.slice none 0 0) ∧ V.cell? ⟨w.heap.size + 1 + 1, 1, none⟩ = some (.slice none 0 0) ∧ V.cell? ⟨w.heap.size + 1 + 1, 2, none⟩ = some (.slice none 0 0) ∧ V.cell? ⟨w.heap.size + 1 + 1, 3, none⟩ = some (.int .i64 0) ∧ V.cell? ⟨w.heap.size + 1 + 1, 4, none⟩ = some (.int .i64 0)) := fun V hW => ⟨(hW.cell (p := ⟨w.heap.size, 0, none⟩) b_30).trans kb0_0, (hW.cell (p := ⟨w.heap.size, 1, none⟩) b_30).trans kb0_1, (hW.cell (p := ⟨w.heap.size + 1, 0, none⟩) b_30).trans kb1_0, (hW.cell (p := ⟨w.heap.size + 1 + 1, 0, none⟩) b_30).trans kb2_0, (hW.cell (p := ⟨w.heap.size + 1 + 1, 1, none⟩) b_30).trans kb2_1, (hW.cell (p := ⟨w.heap.size + 1 + 1, 2, none⟩) b_30).trans kb2_2, (hW.cell (p := ⟨w.heap.size + 1 + 1, 3, none⟩) b_30).trans kb2_3, (hW.cell (p := ⟨w.heap.size + 1 + 1, 4, none⟩) b_30).trans kb2_4⟩
 clear kb0_0 kb0_1 kb1_0 kb2_0 kb2_1 kb2_2 kb2_3 kb2_4
 go_loopw [13] (fun i wr => ∃ k : Nat, k ≤ List.length x.2 ∧ i = .int .i64 k ∧ (x.2.take k).any (lookP n now) = false ∧ Below WX.heap.size WX wr) (fun i _ => List.length x.2 - (intOf i).toNat)
 case atStart => exact ⟨0, by omega, rfl, by first | rfl | simp, Below.refl _ _⟩
 case round =>
  obtain ⟨k, hk, rfl, ht, hb⟩ := hrel
  have hw : Below w.heap.size w wr := bel_trans hvb hb
  have HT := Lib.hid ht
  clear ht
  obtain ⟨j0, j1, j2, j3, j4, j5, j6, j7⟩ := HC.out _ (hb)
  have hsw := hb.size
  have zw0 : w.heap.size < wr.heap.size := by omega
  have zw1 : w.heap.size + 1 < wr.heap.size := by omega
  by_cases hlt : k < List.length x.2
  ·have HS := Lib.hid (any_take_succ (lookP n now) x.2 hlt)
   obtain ⟨b, o, dse, rfl, hle, hcelle, hrde⟩ := Ty.rd_at (Ty.rd_below hw xg1) hlt
   have hrde' := hrde
   obtain ⟨Ae00, ce00, Ae01, ce01, Ae02, ce02, rfl, eg0, eg1⟩ := rd_CacheEntry hrde
   have e0 : wr.cell? ⟨b, o + k * 6, none⟩ = some (.slice Ae00 (List.length (x.2)[k].1.1) ce00) := by simpa [Ty.sz] using hcelle 0 b_33
   have e1 : wr.cell? ⟨b, o + k * 6 + 1, none⟩ = some (.slice Ae01 (List.length (x.2)[k].1.2.1) ce01) := by simpa [Ty.sz] using hcelle 1 b_33
   have e2 : wr.cell? ⟨b, o + k * 6 + 2, none⟩ = some (.slice Ae02 (List.length (x.2)[k].1.2.2.1) ce02) := by simpa [Ty.sz] using hcelle 2 b_33
   have e3 : wr.cell? ⟨b, o + k * 6 + 3, none⟩ = some (.int .i64 (x.2)[k].1.2.2.2.1) := by simpa [Ty.sz] using hcelle 3 b_33
   have e4 : wr.cell? ⟨b, o + k * 6 + 4, none⟩ = some (.int .i64 (x.2)[k].1.2.2.2.2) := by simpa [Ty.sz] using hcelle 4 b_33
   have e5 : wr.cell? ⟨b, o + k * 6 + 5, none⟩ = some (.int .i64 (x.2)[k].2) := by simpa [Ty.sz] using hcelle 5 b_33
   clear hcelle hle
   have hng : Ty.rd wr (.sl .str) [.slice Ae00 (List.length (x.2)[k].1.1) ce00] (x.2)[k].1.1 := rd_pr_head eg0
   have hlb : b < wr.heap.size := World.block_lt_of_cell? wr _ e0
   have i0 : (0 : Int) ≤ (k : Int) := by omega
   have i1 : (k : Int) < (List.length x.2 : Int) := by omega
   have HP := Lib.hid (show lookP n now (x.2)[k] = (decide ((x.2)[k].1.1 = n) && f_FreshAt (x.2)[k].1 now) from rfl)
   have kb0_0 : (wr.alloc (.cells #[.slice Ae00 (List.length (x.2)[k].1.1) ce00, .slice Ae01 (List.length (x.2)[k].1.2.1) ce01, .slice Ae02 (List.length (x.2)[k].1.2.2.1) ce02, .int .i64 (x.2)[k].1.2.2.2.1, .int .i64 (x.2)[k].1.2.2.2.2, .int .i64 (x.2)[k].2] 127)).cell? ⟨wr.heap.size, 0, none⟩ = some (.slice Ae00 (List.length (x.2)[k].1.1) ce00) := (cell_new wr _ _ 0 b_24)
   have kb0_1 : (wr.alloc (.cells #[.slice Ae00 (List.length (x.2)[k].1.1) ce00, .slice Ae01 (List.length (x.2)[k].1.2.1) ce01, .slice Ae02 (List.length (x.2)[k].1.2.2.1) ce02, .int .i64 (x.2)[k].1.2.2.2.1, .int .i64 (x.2)[k].1.2.2.2.2, .int .i64 (x.2)[k].2] 127)).cell? ⟨wr.heap.size, 1, none⟩ = some (.slice Ae01 (List.length (x.2)[k].1.2.1) ce01) := (cell_new wr _ _ 1 b_24)
   have kb0_2 : (wr.alloc (.cells #[.slice Ae00 (List.length (x.2)[k].1.1) ce00, .slice Ae01 (List.length (x.2)[k].1.2.1) ce01, .slice Ae02 (List.length (x.2)[k].1.2.2.1) ce02, .int .i64 (x.2)[k].1.2.2.2.1, .int .i64 (x.2)[k].1.2.2.2.2, .int .i64 (x.2)[k].2] 127)).cell? ⟨wr.heap.size, 2, none⟩ = some (.slice Ae02 (List.length (x.2)[k].1.2.2.1) ce02) := (cell_new wr _ _ 2 b_24)
   have kb0_3 : (wr.alloc (.cells #[.slice Ae00 (List.length (x.2)[k].1.1) ce00, .slice Ae01 (List.length (x.2)[k].1.2.1) ce01, .slice Ae02 (List.length (x.2)[k].1.2.2.1) ce02, .int .i64 (x.2)[k].1.2.2.2.1, .int .i64 (x.2)[k].1.2.2.2.2, .int .i64 (x.2)[k].2] 127)).cell? ⟨wr.heap.size, 3, none⟩ = some (.int .i64 (x.2)[k].1.2.2.2.1) := (cell_new wr _ _ 3 b_24)
   have kb0_4 : (wr.alloc (.cells #[.slice Ae00 (List.length (x.2)[k].1.1) ce00, .slice Ae01 (List.length (x.2)[k].1.2.1) ce01, .slice Ae02 (List.length (x.2)[k].1.2.2.1) ce02, .int .i64 (x.2)[k].1.2.2.2.1, .int .i64 (x.2)[k].1.2.2.2.2, .int .i64 (x.2)[k].2] 127)).cell? ⟨wr.heap.size, 4, none⟩ = some (.int .i64 (x.2)[k].1.2.2.2.2) := (cell_new wr _ _ 4 b_24)
   have kb0_5 : (wr.alloc (.cells #[.slice Ae00 (List.length (x.2)[k].1.1) ce00, .slice Ae01 (List.length (x.2)[k].1.2.1) ce01, .slice Ae02 (List.length (x.2)[k].1.2.2.1) ce02, .int .i64 (x.2)[k].1.2.2.2.1, .int .i64 (x.2)[k].1.2.2.2.2, .int .i64 (x.2)[k].2] 127)).cell? ⟨wr.heap.size, 5, none⟩ = some (.int .i64 (x.2)[k].2) := (cell_new wr _ _ 5 b_24)
   have hve : Below wr.heap.size wr (wr.alloc (.cells #[.slice Ae00 (List.length (x.2)[k].1.1) ce00, .slice Ae01 (List.length (x.2)[k].1.2.1) ce01, .slice Ae02 (List.length (x.2)[k].1.2.2.1) ce02, .int .i64 (x.2)[k].1.2.2.2.1, .int .i64 (x.2)[k].1.2.2.2.2, .int .i64 (x.2)[k].2] 127)) := b_6
   have ze0 := Lib.hid (show (wr.alloc (.cells #[.slice Ae00 (List.length (x.2)[k].1.1) ce00, .slice Ae01 (List.length (x.2)[k].1.2.1) ce01, .slice Ae02 (List.length (x.2)[k].1.2.2.1) ce02, .int .i64 (x.2)[k].1.2.2.2.1, .int .i64 (x.2)[k].1.2.2.2.2, .int .i64 (x.2)[k].2] 127)).heap.size = wr.heap.size + 1 from by simp only [World.size_alloc])
   have ze : wr.heap.size < (wr.alloc (.cells #[.slice Ae00 (List.length (x.2)[k].1.1) ce00, .slice Ae01 (List.length (x.2)[k].1.2.1) ce01, .slice Ae02 (List.length (x.2)[k].1.2.2.1) ce02, .int .i64 (x.2)[k].1.2.2.2.1, .int .i64 (x.2)[k].1.2.2.2.2, .int .i64 (x.2)[k].2] 127)).heap.size := by simp only [World.size_alloc]; omega
   go_wp2_with fail
   generalize (wr.alloc (.cells #[.slice Ae00 (List.length (x.2)[k].1.1) ce00, .slice Ae01 (List.length (x.2)[k].1.2.1) ce01, .slice Ae02 (List.length (x.2)[k].1.2.2.1) ce02, .int .i64 (x.2)[k].1.2.2.2.1, .int .i64 (x.2)[k].1.2.2.2.2, .int .i64 (x.2)[k].2] 127)) = WE at kb0_0 kb0_1 kb0_2 kb0_3 kb0_4 kb0_5 hve ze ze0 ⊢
   have HD : Hid (∀ V, Below WE.heap.size WE V → V.cell? ⟨wr.heap.size, 0, none⟩ = some (.slice Ae00 (List.length (x.2)[k].1.1) ce00) ∧ V.cell? ⟨wr.heap.size, 1, none⟩ = some (.slice Ae01 (List.length (x.2)[k].1.2.1) ce01) ∧ V.cell? ⟨wr.heap.size, 2, none⟩ = some (.slice Ae02 (List.length (x.2)[k].1.2.2.1) ce02) ∧ V.cell? ⟨wr.heap.size, 3, none⟩ = some (.int .i64 (x.2)[k].1.2.2.2.1) ∧ V.cell? ⟨wr.heap.size, 4, none⟩ = some (.int .i64 (x.2)[k].1.2.2.2.2) ∧ V.cell? ⟨wr.heap.size, 5, none⟩ = some (.int .i64 (x.2)[k].2)) := fun V hW => ⟨(hW.cell (p := ⟨wr.heap.size, 0, none⟩) b_30).trans kb0_0, (hW.cell (p := ⟨wr.heap.size, 1, none⟩) b_30).trans kb0_1, (hW.cell (p := ⟨wr.heap.size, 2, none⟩) b_30).trans kb0_2, (hW.cell (p := ⟨wr.heap.size, 3, none⟩) b_30).trans kb0_3, (hW.cell (p := ⟨wr.heap.size, 4, none⟩) b_30).trans kb0_4, (hW.cell (p := ⟨wr.heap.size, 5, none⟩) b_30).trans kb0_5⟩
   clear kb0_0 kb0_1 kb0_2 kb0_3 kb0_4 kb0_5
   refine (C_impl_EqualNames _ _ _ _ _ (Ty.rd_below hve hng) (Ty.rd_below (bel_trans hw hve) h2)).mono ?_
   rintro e w2 ⟨rfl, hb2⟩
   clear j0 j1 j2 j3 j4 j5 j6 j7 e0 e1 e2 e3 e4 e5
   cases q0 : decide ((x.2)[k].1.1 = n)
   ·have HZ := Lib.hid (show lookP n now (x.2)[k] = false from by rw [HP.out, q0]; rfl)
    go_wp2
    go_roundw
    case rel => exact ⟨k + 1, by omega, by go_num, by rw [HS.out, HT.out, HZ.out]; rfl, bel_trans hb (bel_trans hve hb2)⟩
    case measure => simp [intOf]; omega
   obtain ⟨y0, y1, y2, y3, y4, y5⟩ := HD.out _ (hb2)
   have ze2 : wr.heap.size < w2.heap.size := by have := hb2.size; omega
   go_wp2_with fail
   refine (C_impl_FreshAt _ _ (x.2)[k].1 now (Ty.rd_below (bel_trans hve hb2) eg0) (entry_bulk' (Ty.bulk_at s0e hlt)) i2).mono ?_
   rintro e w3 ⟨rfl, hb3⟩
   have hv3 : Below wr.heap.size wr w3 := bel_trans hve (bel_trans hb2 hb3)
   clear y0 y1 y2 y3 y4 y5
   cases q1 : f_FreshAt (x.2)[k].1 now
   ·have HZ := Lib.hid (show lookP n now (x.2)[k] = false from by rw [HP.out, q1]; simp)
    go_wp2
    go_roundw
    case rel => exact ⟨k + 1, by omega, by go_num, by rw [HS.out, HT.out, HZ.out]; rfl, bel_trans hb hv3⟩
    case measure => simp [intOf]; omega
   have HZ := Lib.hid (show lookP n now (x.2)[k] = true from by rw [HP.out, q0, q1]; rfl)
   have HF1 : Hid (F1 = true) := by have := HQ1.out; rwa [List.any_eq_true.2 ⟨_, List.getElem_mem hlt, HZ.out⟩] at this
   have HF0 : Hid (F0 = (x.2)[k].1) := by have := HQ0.out; rwa [find_hit _ _ hlt HT.out HZ.out] at this
   obtain ⟨y0, y1, y2, y3, y4, y5⟩ := HD.out _ ((bel_trans hb2 hb3))
   have ze3 : wr.heap.size < w3.heap.size := by have := hb3.size; omega
   go_wp2_with fail
   refine (C_impl_copyData _ _ (x.2)[k].1 (Ty.rd_below hv3 eg0) (Nat.le_trans (entry_bulk' (Ty.bulk_at s0e hlt)) b_33)).mono ?_
   rintro e w9 ⟨cs9, fp9, rfl, how9, hfr9, hb9⟩
   obtain ⟨Aq0, cq0, Aq1, cq1, Aq2, cq2, rfl⟩ := ow_Data how9
   have hz9 := hb9.size
   have hx9 : Below WX.heap.size WX w9 := bel_trans (bel_trans hb hv3) hb9
   have hR9 := hR0.below hx9 hR0.lt
   have hw9 : Below w.heap.size w w9 := bel_trans hvb hx9
   obtain ⟨kR_9_0, kR_9_1, kR_9_2, kR_9_3, kR_9_4, fR_9_0, fR_9_1, fR_9_2, fR_9_3, fR_9_4, zR_9⟩ := bk5 hR9
   have hzs : WX.heap.size ≤ w3.heap.size := (bel_trans hb hv3).size
   go_wp2
   refine bodyPost_ret (v := .tuple #[.agg #[.slice Aq0 (List.length (x.2)[k].1.1) cq0, .slice Aq1 (List.length (x.2)[k].1.2.1) cq1, .slice Aq2 (List.length (x.2)[k].1.2.2.1) cq2, .int .i64 (x.2)[k].1.2.2.2.1, .int .i64 (x.2)[k].1.2.2.2.2], .bool true]) (by simp [results, Try.results22, go_sem, kR_9_0, fR_9_0, kR_9_1, fR_9_1, kR_9_2, fR_9_2, kR_9_3, fR_9_3, kR_9_4, fR_9_4, zR_9]) rfl ?_
   rw [HF1.out, HF0.out]
   exact ⟨_, fp9, rfl, Ty.ow_keep (by intro b hb'; have hb'' := (hfr9).2 b hb'; (try simp only [szz] at hb''); repeat (first | (with_reducible rfl) | (rw [Below.heap_setCell _ _ _ _ b_29]) | (rw [Below.heap_alloc _ _ _ b_20]))) how9, hfr9.mono b_34 b_23, b_6⟩
  ·have HE : Hid (x.2.any (lookP n now) = false) := by have := HT.out; rwa [List.take_of_length_le b_34] at this
   have HF1 : Hid (F1 = false) := by have := HQ1.out; rwa [HE.out] at this
   have HF0 : Hid (F0 = noData) := by have := HQ0.out; rwa [find_miss _ _ HE.out] at this
   have hR8 := hR0.below hb hR0.lt
   obtain ⟨kR_8_0, kR_8_1, kR_8_2, kR_8_3, kR_8_4, fR_8_0, fR_8_1, fR_8_2, fR_8_3, fR_8_4, zR_8⟩ := bk5 hR8
   go_wp2
   refine bodyPost_ret (v := .tuple #[.agg #[.slice none 0 0, .slice none 0 0, .slice none 0 0, .int .i64 0, .int .i64 0], .bool false]) (by simp [results, Try.results22, go_sem, kR_8_0, fR_8_0, kR_8_1, fR_8_1, kR_8_2, fR_8_2, kR_8_3, fR_8_3, kR_8_4, fR_8_4, zR_8]) rfl ?_
   rw [HF1.out, HF0.out]
   exact ⟨_, [], rfl, ow_zeroData _, FrI.nil _ _, b_6⟩
set_option maxRecDepth 100000 in
set_option maxHeartbeats 2000000 in
theorem C_spec_CacheLookup (w : World) (cs1 : List Value) (x : Ty.D tContentStore) (cs2 : List Value) (n : List (List UInt8)) (now : Int) (h1 : Ty.rd w tContentStore cs1 x) (h2 : (Ty.sl .str).rd w cs2 n) (s0 : Ty.bulk tContentStore x ≤ 1048576) (s1 : Ty.bulk (.sl .str) n ≤ 1048576) (i2 : -9223372036854775808 ≤ now ∧ now ≤ 9223372036854775807) :
  Calls Try.prog 23 #[.agg cs1.toArray, .agg cs2.toArray, .int .i64 now] w (RetAgg2 w tData (f0_CacheLookup x n now) (.bool (f1_CacheLookup x n now))) := by
 obtain ⟨Ax1, cx1, rfl, xg0, xg1⟩ := rd_ContentStore h1
 obtain ⟨An0, cn0, rfl⟩ := Ty.rd_slv h2
 have s0e := store_bulk' s0
 have hxl := Ty.bulk_len s0e
 obtain ⟨_, _, _, m7, _, m9⟩ := Ty.rd_sl xg1
 have hF0 : f0_CacheLookup x n now = (match x.2.find? (lookP n now) with | some e => e.1 | none => noData) := rfl
 have hF1 : f1_CacheLookup x n now = x.2.any (lookP n now) := rfl
 generalize f0_CacheLookup x n now = F0 at hF0 ⊢
 generalize f1_CacheLookup x n now = F1 at hF1 ⊢
 have HQ0 := Lib.hid hF0
 have HQ1 := Lib.hid hF1
 clear hF0 hF1
 have kb0_0 : (((w.alloc (.cells #[.int .i64 x.1, .slice Ax1 (List.length x.2) cx1] 55)).alloc (.cells #[.slice An0 (List.length n) cn0] 27)).alloc (.cells #[.slice none 0 0, .slice none 0 0, .slice none 0 0, .int .i64 0, .int .i64 0] 46)).cell? ⟨w.heap.size, 0, none⟩ = some (.int .i64 x.1) := ((World.cell?_alloc_lt _ _ _ b_26).trans ((World.cell?_alloc_lt _ _ _ b_26).trans (cell_new w _ _ 0 b_24)))
 have kb0_1 : (((w.alloc (.cells #[.int .i64 x.1, .slice Ax1 (List.length x.2) cx1] 55)).alloc (.cells #[.slice An0 (List.length n) cn0] 27)).alloc (.cells #[.slice none 0 0, .slice none 0 0, .slice none 0 0, .int .i64 0, .int .i64 0] 46)).cell? ⟨w.heap.size, 1, none⟩ = some (.slice Ax1 (List.length x.2) cx1) := ((World.cell?_alloc_lt _ _ _ b_26).trans ((World.cell?_alloc_lt _ _ _ b_26).trans (cell_new w _ _ 1 b_24)))
 have kb1_0 : (((w.alloc (.cells #[.int .i64 x.1, .slice Ax1 (List.length x.2) cx1] 55)).alloc (.cells #[.slice An0 (List.length n) cn0] 27)).alloc (.cells #[.slice none 0 0, .slice none 0 0, .slice none 0 0, .int .i64 0, .int .i64 0] 46)).cell? ⟨w.heap.size + 1, 0, none⟩ = some (.slice An0 (List.length n) cn0) := ((World.cell?_alloc_lt _ _ _ b_26).trans (cell_new (w.alloc (.cells #[.int .i64 x.1, .slice Ax1 (List.length x.2) cx1] 55)) _ _ 0 b_24))
 have kb2_0 : (((w.alloc (.cells #[.int .i64 x.1, .slice Ax1 (List.length x.2) cx1] 55)).alloc (.cells #[.slice An0 (List.length n) cn0] 27)).alloc (.cells #[.slice none 0 0, .slice none 0 0, .slice none 0 0, .int .i64 0, .int .i64 0] 46)).cell? ⟨w.heap.size + 1 + 1, 0, none⟩ = some (.slice none 0 0) := (cell_new ((w.alloc (.cells #[.int .i64 x.1, .slice Ax1 (List.length x.2) cx1] 55)).alloc (.cells #[.slice An0 (List.length n) cn0] 27)) _ _ 0 b_24)
 have kb2_1 : (((w.alloc (.cells #[.int .i64 x.1, .slice Ax1 (List.length x.2) cx1] 55)).alloc (.cells #[.slice An0 (List.length n) cn0] 27)).alloc (.cells #[.slice none 0 0, .slice none 0 0, .slice none 0 0, .int .i64 0, .int .i64 0] 46)).cell? ⟨w.heap.size + 1 + 1, 1, none⟩ = some (.slice none 0 0) := (cell_new ((w.alloc (.cells #[.int .i64 x.1, .slice Ax1 (List.length x.2) cx1] 55)).alloc (.cells #[.slice An0 (List.length n) cn0] 27)) _ _ 1 b_24)
 have kb2_2 : (((w.alloc (.cells #[.int .i64 x.1, .slice Ax1 (List.length x.2) cx1] 55)).alloc (.cells #[.slice An0 (List.length n) cn0] 27)).alloc (.cells #[.slice none 0 0, .slice none 0 0, .slice none 0 0, .int .i64 0, .int .i64 0] 46)).cell? ⟨w.heap.size + 1 + 1, 2, none⟩ = some (.slice none 0 0) := (cell_new ((w.alloc (.cells #[.int .i64 x.1, .slice Ax1 (List.length x.2) cx1] 55)).alloc (.cells #[.slice An0 (List.length n) cn0] 27)) _ _ 2 b_24)
 have kb2_3 : (((w.alloc (.cells #[.int .i64 x.1, .slice Ax1 (List.length x.2) cx1] 55)).alloc (.cells #[.slice An0 (List.length n) cn0] 27)).alloc (.cells #[.slice none 0 0, .slice none 0 0, .slice none 0 0, .int .i64 0, .int .i64 0] 46)).cell? ⟨w.heap.size + 1 + 1, 3, none⟩ = some (.int .i64 0) := (cell_new ((w.alloc (.cells #[.int .i64 x.1, .slice Ax1 (List.length x.2) cx1] 55)).alloc (.cells #[.slice An0 (List.length n) cn0] 27)) _ _ 3 b_24)
 have kb2_4 : (((w.alloc (.cells #[.int .i64 x.1, .slice Ax1 (List.length x.2) cx1] 55)).alloc (.cells #[.slice An0 (List.length n) cn0] 27)).alloc (.cells #[.slice none 0 0, .slice none 0 0, .slice none 0 0, .int .i64 0, .int .i64 0] 46)).cell? ⟨w.heap.size + 1 + 1, 4, none⟩ = some (.int .i64 0) := (cell_new ((w.alloc (.cells #[.int .i64 x.1, .slice Ax1 (List.length x.2) cx1] 55)).alloc (.cells #[.slice An0 (List.length n) cn0] 27)) _ _ 4 b_24)
 have hvb : Below w.heap.size w (((w.alloc (.cells #[.int .i64 x.1, .slice Ax1 (List.length x.2) cx1] 55)).alloc (.cells #[.slice An0 (List.length n) cn0] 27)).alloc (.cells #[.slice none 0 0, .slice none 0 0, .slice none 0 0, .int .i64 0, .int .i64 0] 46)) := b_6
 have zb0 := Lib.hid (show (((w.alloc (.cells #[.int .i64 x.1, .slice Ax1 (List.length x.2) cx1] 55)).alloc (.cells #[.slice An0 (List.length n) cn0] 27)).alloc (.cells #[.slice none 0 0, .slice none 0 0, .slice none 0 0, .int .i64 0, .int .i64 0] 46)).heap.size = w.heap.size + 1 + 1 + 1 from by simp only [World.size_alloc])
 have zb : w.heap.size + 1 + 1 < (((w.alloc (.cells #[.int .i64 x.1, .slice Ax1 (List.length x.2) cx1] 55)).alloc (.cells #[.slice An0 (List.length n) cn0] 27)).alloc (.cells #[.slice none 0 0, .slice none 0 0, .slice none 0 0, .int .i64 0, .int .i64 0] 46)).heap.size := by simp only [World.size_alloc]; omega
 have hR0 : Blk (((w.alloc (.cells #[.int .i64 x.1, .slice Ax1 (List.length x.2) cx1] 55)).alloc (.cells #[.slice An0 (List.length n) cn0] 27)).alloc (.cells #[.slice none 0 0, .slice none 0 0, .slice none 0 0, .int .i64 0, .int .i64 0] 46)) (w.heap.size + 1 + 1) 46 #[.slice none 0 0, .slice none 0 0, .slice none 0 0, .int .i64 0, .int .i64 0] := by have := Blk.new ((w.alloc (.cells #[.int .i64 x.1, .slice Ax1 (List.length x.2) cx1] 55)).alloc (.cells #[.slice An0 (List.length n) cn0] 27)) 46 #[.slice none 0 0, .slice none 0 0, .slice none 0 0, .int .i64 0, .int .i64 0]; rwa [World.size_alloc, World.size_alloc] at this
 go_enter Try.func23, Try.ntmps23
 go_wp2
 generalize (((w.alloc (.cells #[.int .i64 x.1, .slice Ax1 (List.length x.2) cx1] 55)).alloc (.cells #[.slice An0 (List.length n) cn0] 27)).alloc (.cells #[.slice none 0 0, .slice none 0 0, .slice none 0 0, .int .i64 0, .int .i64 0] 46)) = WX at hR0 kb0_0 kb0_1 kb1_0 kb2_0 kb2_1 kb2_2 kb2_3 kb2_4 hvb zb zb0 ⊢
 have HC : Hid (∀ V, Below WX.heap.size WX V → V.cell? ⟨w.heap.size, 0, none⟩ = some (.int .i64 x.1) ∧ V.cell? ⟨w.heap.size, 1, none⟩ = some (.slice Ax1 (List.length x.2) cx1) ∧ V.cell? ⟨w.heap.size + 1, 0, none⟩ = some (.slice An0 (List.length n) cn0) ∧ V.cell? ⟨w.heap.size + 1 + 1, 0, none⟩ = some (.slice none 0 0) ∧ V.cell? ⟨w.heap.size + 1 + 1, 1, none⟩ = some (.slice none 0 0) ∧ V.cell? ⟨w.heap.size + 1 + 1, 2, none⟩ = some (.slice none 0 0) ∧ V.cell? ⟨w.heap.size + 1 + 1, 3, none⟩ = some (.int .i64 0) ∧ V.cell? ⟨w.heap.size + 1 + 1, 4, none⟩ = some (.int .i64 0)) := fun V hW => ⟨(hW.cell (p := ⟨w.heap.size, 0, none⟩) b_30).trans kb0_0, (hW.cell (p := ⟨w.heap.size, 1, none⟩) b_30).trans kb0_1, (hW.cell (p := ⟨w.heap.size + 1, 0, none⟩) b_30).trans kb1_0, (hW.cell (p := ⟨w.heap.size + 1 + 1, 0, none⟩) b_30).trans kb2_0, (hW.cell (p := ⟨w.heap.size + 1 + 1, 1, none⟩) b_30).trans kb2_1, (hW.cell (p := ⟨w.heap.size + 1 + 1, 2, none⟩) b_30).trans kb2_2, (hW.cell (p := ⟨w.heap.size + 1 + 1, 3, none⟩) b_30).trans kb2_3, (hW.cell (p := ⟨w.heap.size + 1 + 1, 4, none⟩) b_30).trans kb2_4⟩
 clear kb0_0 kb0_1 kb1_0 kb2_0 kb2_1 kb2_2 kb2_3 kb2_4
 go_loopw [8] (fun i wr => ∃ k : Nat, k ≤ List.length x.2 ∧ i = .int .i64 k ∧ (x.2.take k).any (lookP n now) = false ∧ Below WX.heap.size WX wr) (fun i _ => List.length x.2 - (intOf i).toNat)
 case atStart => exact ⟨0, by omega, rfl, by first | rfl | simp, Below.refl _ _⟩
 case round =>
  obtain ⟨k, hk, rfl, ht, hb⟩ := hrel
  have hw : Below w.heap.size w wr := bel_trans hvb hb
  have HT := Lib.hid ht
  clear ht
  obtain ⟨j0, j1, j2, j3, j4, j5, j6, j7⟩ := HC.out _ (hb)
  have hsw := hb.size
  have zw0 : w.heap.size < wr.heap.size := by omega
  have zw1 : w.heap.size + 1 < wr.heap.size := by omega
  by_cases hlt : k < List.length x.2
  ·have HS := Lib.hid (any_take_succ (lookP n now) x.2 hlt)
   obtain ⟨b, o, dse, rfl, hle, hcelle, hrde⟩ := Ty.rd_at (Ty.rd_below hw xg1) hlt
   have hrde' := hrde
   obtain ⟨Ae00, ce00, Ae01, ce01, Ae02, ce02, rfl, eg0, eg1⟩ := rd_CacheEntry hrde
   have e0 : wr.cell? ⟨b, o + k * 6, none⟩ = some (.slice Ae00 (List.length (x.2)[k].1.1) ce00) := by simpa [Ty.sz] using hcelle 0 b_33
   have e1 : wr.cell? ⟨b, o + k * 6 + 1, none⟩ = some (.slice Ae01 (List.length (x.2)[k].1.2.1) ce01) := by simpa [Ty.sz] using hcelle 1 b_33
   have e2 : wr.cell? ⟨b, o + k * 6 + 2, none⟩ = some (.slice Ae02 (List.length (x.2)[k].1.2.2.1) ce02) := by simpa [Ty.sz] using hcelle 2 b_33
   have e3 : wr.cell? ⟨b, o + k * 6 + 3, none⟩ = some (.int .i64 (x.2)[k].1.2.2.2.1) := by simpa [Ty.sz] using hcelle 3 b_33
   have e4 : wr.cell? ⟨b, o + k * 6 + 4, none⟩ = some (.int .i64 (x.2)[k].1.2.2.2.2) := by simpa [Ty.sz] using hcelle 4 b_33
   have e5 : wr.cell? ⟨b, o + k * 6 + 5, none⟩ = some (.int .i64 (x.2)[k].2) := by simpa [Ty.sz] using hcelle 5 b_33
   clear hcelle hle
   have hng : Ty.rd wr (.sl .str) [.slice Ae00 (List.length (x.2)[k].1.1) ce00] (x.2)[k].1.1 := rd_pr_head eg0
   have hlb : b < wr.heap.size := World.block_lt_of_cell? wr _ e0
   have i0 : (0 : Int) ≤ (k : Int) := by omega
   have i1 : (k : Int) < (List.length x.2 : Int) := by omega
   have HP := Lib.hid (show lookP n now (x.2)[k] = (decide ((x.2)[k].1.1 = n) && f_FreshAt (x.2)[k].1 now) from rfl)
   have HH : Hid (∀ W, Below wr.heap.size wr W → Below wr.heap.size wr W ∧ W.cell? ⟨w.heap.size, 0, none⟩ = some (.int .i64 x.1) ∧ W.cell? ⟨w.heap.size, 1, none⟩ = some (.slice (some ⟨b, o, none⟩) (List.length x.2) cx1) ∧ W.cell? ⟨w.heap.size + 1, 0, none⟩ = some (.slice An0 (List.length n) cn0) ∧ W.cell? ⟨b, o + k * 6, none⟩ = some (.slice Ae00 (List.length (x.2)[k].1.1) ce00) ∧ W.cell? ⟨b, o + k * 6 + 1, none⟩ = some (.slice Ae01 (List.length (x.2)[k].1.2.1) ce01) ∧ W.cell? ⟨b, o + k * 6 + 2, none⟩ = some (.slice Ae02 (List.length (x.2)[k].1.2.2.1) ce02) ∧ W.cell? ⟨b, o + k * 6 + 3, none⟩ = some (.int .i64 (x.2)[k].1.2.2.2.1) ∧ W.cell? ⟨b, o + k * 6 + 4, none⟩ = some (.int .i64 (x.2)[k].1.2.2.2.2)) := fun W hW => ⟨hW, (HC.out W (bel_trans hb hW)).1, (HC.out W (bel_trans hb hW)).2.1, (HC.out W (bel_trans hb hW)).2.2.1, (hW.cell (p := ⟨b, o + k * 6, none⟩) hlb).trans e0, (hW.cell (p := ⟨b, o + k * 6 + 1, none⟩) hlb).trans e1, (hW.cell (p := ⟨b, o + k * 6 + 2, none⟩) hlb).trans e2, (hW.cell (p := ⟨b, o + k * 6 + 3, none⟩) hlb).trans e3, (hW.cell (p := ⟨b, o + k * 6 + 4, none⟩) hlb).trans e4⟩
   have hv0 : Below wr.heap.size wr wr := Below.refl _ _
   clear j3 j4 j5 j6 j7
   cases q0 : decide ((x.2)[k].1.1 = n)
   ·have HZ := Lib.hid (show lookP n now (x.2)[k] = false from by rw [HP.out, q0]; rfl)
    go_wp2_with fail
    refine wp_region_noPanic ?_
    refine wp_region_held_drew (S := (fun W => Below wr.heap.size wr W ∧ W.cell? ⟨w.heap.size, 0, none⟩ = some (.int .i64 x.1) ∧ W.cell? ⟨w.heap.size, 1, none⟩ = some (.slice (some ⟨b, o, none⟩) (List.length x.2) cx1) ∧ W.cell? ⟨w.heap.size + 1, 0, none⟩ = some (.slice An0 (List.length n) cn0) ∧ W.cell? ⟨b, o + k * 6, none⟩ = some (.slice Ae00 (List.length (x.2)[k].1.1) ce00) ∧ W.cell? ⟨b, o + k * 6 + 1, none⟩ = some (.slice Ae01 (List.length (x.2)[k].1.2.1) ce01) ∧ W.cell? ⟨b, o + k * 6 + 2, none⟩ = some (.slice Ae02 (List.length (x.2)[k].1.2.2.1) ce02) ∧ W.cell? ⟨b, o + k * 6 + 3, none⟩ = some (.int .i64 (x.2)[k].1.2.2.2.1) ∧ W.cell? ⟨b, o + k * 6 + 4, none⟩ = some (.int .i64 (x.2)[k].1.2.2.2.2))) b_31 ?_ (fun hHeld => ?_)
    ·exact HH.out _ b_2
    refine tkz4 0 1 2 3 ?_
    try simp only [layz]
    refine tkz4 4 5 6 7 ?_
    try simp only [layz]
    refine rz1 8 (fun K hK => ?_)
    go_simp
    go_at_call 99
    refine (C_spec_EqualNames _ _ _ _ _ (Ty.rd_below b_2 hng) (Ty.rd_below (bel_trans hw b_2) h2)).mono ?_
    rw [q0]
    rintro e w2 ⟨rfl, hb2⟩
    refine hK.out _ _ (HH.out _ b_2) (fun hHeld => ?_)
    clear hK K
    try simp only [layz]
    refine tkz 9 ?_
    try simp only [layz]
    refine skz 10 ?_
    try simp only [layz]
    refine skz 11 ?_
    try simp only [layz]
    refine skz 12 ?_
    try simp only [layz]
    refine skz 13 ?_
    try simp only [layz]
    refine skz 14 ?_
    try simp only [layz]
    refine skz 15 ?_
    try simp only [layz]
    refine skz 16 ?_
    try simp only [layz]
    refine skz 17 ?_
    try simp only [layz]
    refine tkz 18 ?_
    try simp only [layz]
    refine wpAnyH_done b_31 ?_ _
    refine NoPanic.normal ?_
    go_wp2
    go_roundw
    case rel => exact ⟨k + 1, by omega, by go_num, by rw [HS.out, HT.out, HZ.out]; rfl, bel_trans hb b_2⟩
    case measure => simp [intOf]; omega
   cases q1 : f_FreshAt (x.2)[k].1 now
   ·have HZ := Lib.hid (show lookP n now (x.2)[k] = false from by rw [HP.out, q1]; simp)
    go_wp2_with fail
    refine wp_region_noPanic ?_
    refine wp_region_held_drew (S := (fun W => Below wr.heap.size wr W ∧ W.cell? ⟨w.heap.size, 0, none⟩ = some (.int .i64 x.1) ∧ W.cell? ⟨w.heap.size, 1, none⟩ = some (.slice (some ⟨b, o, none⟩) (List.length x.2) cx1) ∧ W.cell? ⟨w.heap.size + 1, 0, none⟩ = some (.slice An0 (List.length n) cn0) ∧ W.cell? ⟨b, o + k * 6, none⟩ = some (.slice Ae00 (List.length (x.2)[k].1.1) ce00) ∧ W.cell? ⟨b, o + k * 6 + 1, none⟩ = some (.slice Ae01 (List.length (x.2)[k].1.2.1) ce01) ∧ W.cell? ⟨b, o + k * 6 + 2, none⟩ = some (.slice Ae02 (List.length (x.2)[k].1.2.2.1) ce02) ∧ W.cell? ⟨b, o + k * 6 + 3, none⟩ = some (.int .i64 (x.2)[k].1.2.2.2.1) ∧ W.cell? ⟨b, o + k * 6 + 4, none⟩ = some (.int .i64 (x.2)[k].1.2.2.2.2))) b_31 ?_ (fun hHeld => ?_)
    ·exact HH.out _ b_2
    refine tkz4 0 1 2 3 ?_
    try simp only [layz]
    refine tkz4 4 5 6 7 ?_
    try simp only [layz]
    refine rz1 8 (fun K hK => ?_)
    go_simp
    go_at_call 99
    refine (C_spec_EqualNames _ _ _ _ _ (Ty.rd_below b_2 hng) (Ty.rd_below (bel_trans hw b_2) h2)).mono ?_
    rw [q0]
    rintro e w2 ⟨rfl, hb2⟩
    refine hK.out _ _ (HH.out _ b_2) (fun hHeld => ?_)
    clear hK K
    try simp only [layz]
    refine tkz4 9 10 11 12 ?_
    try simp only [layz]
    refine tkz4 13 14 15 16 ?_
    try simp only [layz]
    refine rz1 17 (fun K hK => ?_)
    go_simp
    go_at_call 60
    refine (C_spec_FreshAt _ _ (x.2)[k].1 now (Ty.rd_below b_2 eg0) (entry_bulk' (Ty.bulk_at s0e hlt)) i2).mono ?_
    rw [q1]
    rintro e w3 ⟨rfl, hb3⟩
    refine hK.out _ _ (HH.out _ b_2) (fun hHeld => ?_)
    clear hK K
    try simp only [layz]
    refine tkz 18 ?_
    try simp only [layz]
    refine wpAnyH_done b_31 ?_ _
    refine NoPanic.normal ?_
    go_wp2
    go_roundw
    case rel => exact ⟨k + 1, by omega, by go_num, by rw [HS.out, HT.out, HZ.out]; rfl, bel_trans hb b_2⟩
    case measure => simp [intOf]; omega
   have HZ := Lib.hid (show lookP n now (x.2)[k] = true from by rw [HP.out, q0, q1]; rfl)
   have HF1 : Hid (F1 = true) := by have := HQ1.out; rwa [List.any_eq_true.2 ⟨_, List.getElem_mem hlt, HZ.out⟩] at this
   have HF0 : Hid (F0 = (x.2)[k].1) := by have := HQ0.out; rwa [find_hit _ _ hlt HT.out HZ.out] at this
   go_wp2_with fail
   refine wp_region_noPanic ?_
   refine wp_region_held_drew (S := (fun W => Below wr.heap.size wr W ∧ W.cell? ⟨w.heap.size, 0, none⟩ = some (.int .i64 x.1) ∧ W.cell? ⟨w.heap.size, 1, none⟩ = some (.slice (some ⟨b, o, none⟩) (List.length x.2) cx1) ∧ W.cell? ⟨w.heap.size + 1, 0, none⟩ = some (.slice An0 (List.length n) cn0) ∧ W.cell? ⟨b, o + k * 6, none⟩ = some (.slice Ae00 (List.length (x.2)[k].1.1) ce00) ∧ W.cell? ⟨b, o + k * 6 + 1, none⟩ = some (.slice Ae01 (List.length (x.2)[k].1.2.1) ce01) ∧ W.cell? ⟨b, o + k * 6 + 2, none⟩ = some (.slice Ae02 (List.length (x.2)[k].1.2.2.1) ce02) ∧ W.cell? ⟨b, o + k * 6 + 3, none⟩ = some (.int .i64 (x.2)[k].1.2.2.2.1) ∧ W.cell? ⟨b, o + k * 6 + 4, none⟩ = some (.int .i64 (x.2)[k].1.2.2.2.2))) b_31 ?_ (fun hHeld => ?_)
   ·exact HH.out _ b_2
   refine tkz4 0 1 2 3 ?_
   try simp only [layz]
   refine tkz4 4 5 6 7 ?_
   try simp only [layz]
   refine rz1 8 (fun K hK => ?_)
   go_simp
   go_at_call 99
   refine (C_spec_EqualNames _ _ _ _ _ (Ty.rd_below b_2 hng) (Ty.rd_below (bel_trans hw b_2) h2)).mono ?_
   rw [q0]
   rintro e w2 ⟨rfl, hb2⟩
   refine hK.out _ _ (HH.out _ b_2) (fun hHeld => ?_)
   clear hK K
   try simp only [layz]
   refine tkz4 9 10 11 12 ?_
   try simp only [layz]
   refine tkz4 13 14 15 16 ?_
   try simp only [layz]
   refine rz1 17 (fun K hK => ?_)
   go_simp
   go_at_call 60
   refine (C_spec_FreshAt _ _ (x.2)[k].1 now (Ty.rd_below b_2 eg0) (entry_bulk' (Ty.bulk_at s0e hlt)) i2).mono ?_
   rw [q1]
   rintro e w3 ⟨rfl, hb3⟩
   refine hK.out _ _ (HH.out _ b_2) (fun hHeld => ?_)
   clear hK K
   try simp only [layz]
   refine tkz 18 ?_
   try simp only [layz]
   refine wpAnyH_done b_31 ?_ _
   refine NoPanic.normal ?_
   have hv3 : Below wr.heap.size wr w3 := b_2
   obtain ⟨y0, y1, y2, y3, y4, y5, y6, y7, y8⟩ := HH.out _ hv3
   have zq3 := hv3.size
   have zq0 : w.heap.size < w3.heap.size := by omega
   have zq1 : b < w3.heap.size := by omega
   go_wp2_with fail
   refine (C_spec_l8Copy _ _ (x.2)[k].1 (Ty.rd_below hv3 eg0) (Nat.le_trans (entry_bulk' (Ty.bulk_at s0e hlt)) b_33)).mono ?_
   rintro e w9 ⟨cs9, fp9, rfl, how9, hfr9, hb9⟩
   obtain ⟨Aq0, cq0, Aq1, cq1, Aq2, cq2, rfl⟩ := ow_Data how9
   have hz9 := hb9.size
   have hx9 : Below WX.heap.size WX w9 := bel_trans (bel_trans hb hv3) hb9
   have hR9 := hR0.below hx9 hR0.lt
   have hw9 : Below w.heap.size w w9 := bel_trans hvb hx9
   obtain ⟨kR_9_0, kR_9_1, kR_9_2, kR_9_3, kR_9_4, fR_9_0, fR_9_1, fR_9_2, fR_9_3, fR_9_4, zR_9⟩ := bk5 hR9
   have hzs : WX.heap.size ≤ w3.heap.size := (bel_trans hb hv3).size
   go_wp2
   refine bodyPost_ret (v := .tuple #[.agg #[.slice Aq0 (List.length (x.2)[k].1.1) cq0, .slice Aq1 (List.length (x.2)[k].1.2.1) cq1, .slice Aq2 (List.length (x.2)[k].1.2.2.1) cq2, .int .i64 (x.2)[k].1.2.2.2.1, .int .i64 (x.2)[k].1.2.2.2.2], .bool true]) (by simp [results, Try.results23, go_sem, kR_9_0, fR_9_0, kR_9_1, fR_9_1, kR_9_2, fR_9_2, kR_9_3, fR_9_3, kR_9_4, fR_9_4, zR_9]) rfl ?_
   rw [HF1.out, HF0.out]
   exact ⟨_, fp9, rfl, Ty.ow_keep (by intro b hb'; have hb'' := (hfr9).2 b hb'; (try simp only [szz] at hb''); repeat (first | (with_reducible rfl) | (rw [Below.heap_setCell _ _ _ _ b_29]) | (rw [Below.heap_alloc _ _ _ b_20]))) how9, hfr9.mono b_34 b_23, b_6⟩
  ·have HE : Hid (x.2.any (lookP n now) = false) := by have := HT.out; rwa [List.take_of_length_le b_34] at this
   have HF1 : Hid (F1 = false) := by have := HQ1.out; rwa [HE.out] at this
   have HF0 : Hid (F0 = noData) := by have := HQ0.out; rwa [find_miss _ _ HE.out] at this
   have hR8 := hR0.below hb hR0.lt
   obtain ⟨kR_8_0, kR_8_1, kR_8_2, kR_8_3, kR_8_4, fR_8_0, fR_8_1, fR_8_2, fR_8_3, fR_8_4, zR_8⟩ := bk5 hR8
   go_wp2
   refine bodyPost_ret (v := .tuple #[.agg #[.slice none 0 0, .slice none 0 0, .slice none 0 0, .int .i64 0, .int .i64 0], .bool false]) (by simp [results, Try.results23, go_sem, kR_8_0, fR_8_0, kR_8_1, fR_8_1, kR_8_2, fR_8_2, kR_8_3, fR_8_3, kR_8_4, fR_8_4, zR_8]) rfl ?_
   rw [HF1.out, HF0.out]
   exact ⟨_, [], rfl, ow_zeroData _, FrI.nil _ _, b_6⟩
def okEnts (l : List (Ty.D tCacheEntry)) : Prop := (∀ e ∈ l, f_ValidData e.1 = true) ∧ l.Pairwise (fun a b => a.1.1 ≠ b.1.1)
theorem okEnts_iff (l : List (Ty.D tCacheEntry)) : (List.range l.length).all (entP l) = true ↔ okEnts l := by
 unfold okEnts
 rw [List.all_eq_true, List.pairwise_iff_getElem]
 constructor
 ·intro h
  have h1 : ∀ i (hi : i < l.length), f_ValidData l[i].1 = true ∧ (l.take i).any (entName l[i].1.1) = false := fun i hi => by
   have := h i (List.mem_range.2 hi)
   rw [entP_at hi] at this
   unfold entAt at this
   simpa only [Bool.and_eq_true, Bool.not_eq_true'] using this
  refine ⟨fun e he => ?_, fun i j hi hj hij => ?_⟩
  ·obtain ⟨i, hi, rfl⟩ := List.getElem_of_mem he
   exact (h1 i hi).1
  ·have h2 := (h1 j hj).2
   rw [List.any_eq_false] at h2
   have h3 := h2 l[i] (List.mem_take_iff_getElem.2 ⟨i, by omega, rfl⟩)
   unfold entName at h3
   simpa only [decide_eq_true_eq] using h3
 ·rintro ⟨h1, h2⟩ i hi
  have hi := List.mem_range.1 hi
  rw [entP_at hi]
  unfold entAt
  rw [h1 _ (List.getElem_mem hi), Bool.true_and, Bool.not_eq_true', List.any_eq_false]
  intro e he
  obtain ⟨j, hj, rfl⟩ := List.mem_take_iff_getElem.1 he
  unfold entName
  have := h2 j i b_34 hi b_34
  simpa only [decide_eq_true_eq] using this
theorem okEnts.sub {l m : List (Ty.D tCacheEntry)} (h : okEnts l) (hs : m.Sublist l) : okEnts m := ⟨fun e he => h.1 e (hs.subset he), h.2.sublist hs⟩
theorem valid_store {x : Ty.D tContentStore} : f_ValidContentStore x = true ↔ (0 ≤ x.1 ∧ x.1 ≤ 8) ∧ (List.length x.2 : Int) ≤ x.1 ∧ okEnts x.2 := by
 unfold f_ValidContentStore
 rw [Bool.and_eq_true, Bool.and_eq_true, okEnts_iff]
 unfold inR
 simp only [Bool.and_eq_true, decide_eq_true_eq]
 exact and_assoc
theorem dropAt_sub (l : List (Ty.D tCacheEntry)) (k : Nat) : (dropAt l k).Sublist l := by
 unfold dropAt
 have h : (l.take k ++ l.drop (k + 1)).Sublist (l.take k ++ l.drop k) := List.Sublist.append (List.Sublist.refl _) (by rw [← List.drop_drop]; exact List.drop_sublist _ _)
 rwa [List.take_append_drop] at h
theorem one_of {a : Int} (h : 0 ≤ a) (h0 : a ≠ 0) : 1 ≤ a := by omega
theorem not_lt_one {a : Int} (h : 0 ≤ a) (h0 : a ≠ 0) (h1 : a < 1) : False := by omega
theorem le_cap {m n : Nat} {a : Int} (h : m ≤ n) (h1 : (n : Int) ≤ a) : (m : Int) ≤ a := by omega
theorem roomFor_sub (c : Int) (l : List (Ty.D tCacheEntry)) : (roomFor c l).Sublist l := by
 unfold roomFor; split
 ·exact dropAt_sub _ _
 ·exact List.Sublist.refl _
theorem roomFor_len {c : Int} {l : List (Ty.D tCacheEntry)} (hc : 1 ≤ c) (h : (l.length : Int) ≤ c) : ((roomFor c l).length : Int) + 1 ≤ c := by
 unfold roomFor; split
 ·rw [dropAt_len (leastTo_lt b_34 (Nat.le_refl _))]; omega
 ·omega
theorem keepE_sub (p : Ty.D tCacheEntry → Bool) (l : List (Ty.D tCacheEntry)) : (keepE p l).Sublist l := List.filter_sublist
theorem cache_not {c : Ty.D tContentStore} {x : Ty.D tData} {now : Int} (h : c.1 = 0 ∨ f_ValidData x = false) : f_CacheData c x now = c := by
 unfold f_CacheData
 rw [if_pos]
 rcases h with h | h
 ·left; rw [h]; rfl
 ·right; exact h
theorem cache_is {c : Ty.D tContentStore} {x : Ty.D tData} {now : Int} (hc : f_ValidContentStore c = true) (h0 : c.1 ≠ 0) (hx : f_ValidData x = true) : f_CacheData c x now = (c.1, cacheE c x now) := by
 have h1 := (valid_store.1 hc).1
 unfold f_CacheData
 rw [if_neg]
 rintro (h | h)
 ·simp only [decide_eq_true_eq] at h; exact not_lt_one h1.1 h0 h
 ·rw [hx] at h; cases h
theorem cache_valid {c : Ty.D tContentStore} {x : Ty.D tData} {now : Int} (hc : f_ValidContentStore c = true) : f_ValidContentStore (f_CacheData c x now) = true := by
 by_cases h : c.1 = 0 ∨ f_ValidData x = false
 ·rw [cache_not h]; exact hc
 ·have h0 : c.1 ≠ 0 := fun e => h (.inl e)
  have hx : f_ValidData x = true := by cases q : f_ValidData x with | true => rfl | false => exact absurd (.inr q) h
  rw [cache_is hc h0 hx]
  obtain ⟨h1, h2, h3⟩ := valid_store.1 hc
  have hk := keepE_sub (notName x.1) c.2
  have hr := roomFor_sub c.1 (keepE (notName x.1) c.2)
  have hn := roomFor_len (c := c.1) (l := keepE (notName x.1) c.2) (one_of h1.1 h0) (le_cap hk.length_le h2)
  refine valid_store.2 ⟨h1, ?_, ?_, ?_⟩
  ·show ((cacheE c x now).length : Int) ≤ c.1
   unfold cacheE
   rw [List.length_append, List.length_singleton]; omega
  ·intro e he
   rcases List.mem_append.1 he with he | he
   ·exact h3.1 e (hk.subset (hr.subset he))
   ·rw [List.mem_singleton.1 he]; exact hx
  ·show (cacheE c x now).Pairwise _
   unfold cacheE
   rw [List.pairwise_append]
   refine ⟨(h3.sub (hr.trans hk)).2, List.pairwise_singleton _ _, fun a ha b hb => ?_⟩
   rw [List.mem_singleton.1 hb]
   have h5 := (List.mem_filter.1 (hr.subset ha)).2
   unfold notName entName at h5
   simpa only [Bool.not_eq_true', decide_eq_false_iff_not] using h5
theorem cache_find {c : Ty.D tContentStore} {x : Ty.D tData} {now : Int} (hc : f_ValidContentStore c = true) (h0 : c.1 ≠ 0) (hx : f_ValidData x = true) :
  (f_CacheData c x now).2.find? (lookP x.1 x.2.2.2.1) = some (x, now) := by
 rw [cache_is hc h0 hx]
 show (cacheE c x now).find? _ = _
 unfold cacheE
 rw [List.find?_append]
 have h1 : (roomFor c.1 (keepE (notName x.1) c.2)).find? (lookP x.1 x.2.2.2.1) = none := by
  rw [List.find?_eq_none]
  intro a ha
  have h5 := (List.mem_filter.1 ((roomFor_sub c.1 _).subset ha)).2
  unfold notName at h5
  unfold lookP
  rw [Bool.not_eq_true'] at h5
  rw [h5]; simp
 rw [h1, Option.none_or]
 have h2 : lookP x.1 x.2.2.2.1 (x, now) = true := by
  unfold lookP entName f_FreshAt
  simp
 simp only [List.find?_cons, h2]
theorem cache_look0 {c : Ty.D tContentStore} {x : Ty.D tData} {now : Int} (hc : f_ValidContentStore c = true) (h0 : c.1 ≠ 0) (hx : f_ValidData x = true) : f0_CacheLookup (f_CacheData c x now) x.1 x.2.2.2.1 = x := by
 unfold f0_CacheLookup; rw [cache_find hc h0 hx]
theorem cache_look1 {c : Ty.D tContentStore} {x : Ty.D tData} {now : Int} (hc : f_ValidContentStore c = true) (h0 : c.1 ≠ 0) (hx : f_ValidData x = true) : f1_CacheLookup (f_CacheData c x now) x.1 x.2.2.2.1 = true := by
 have := cache_find (now := now) hc h0 hx
 unfold f1_CacheLookup
 rw [List.any_eq_true]
 exact ⟨_, List.mem_of_find?_eq_some this, List.find?_some this⟩
theorem cache_len {c : Ty.D tContentStore} {x : Ty.D tData} {now : Int} (hc : f_ValidContentStore c = true) : (List.length (f_CacheData c x now).2 : Int) ≤ c.1 := by
 have h := (valid_store.1 (cache_valid (x := x) (now := now) hc)).2.1
 have h1 : (f_CacheData c x now).1 = c.1 := by unfold f_CacheData; split <;> rfl
 rwa [h1] at h
theorem look_fresh {k : Ty.D tContentStore} {n : List (List UInt8)} {t : Int} (h : f1_CacheLookup k n t = true) : f_FreshAt (f0_CacheLookup k n t) t = true := by
 unfold f1_CacheLookup at h
 unfold f0_CacheLookup
 rw [List.any_eq_true] at h
 obtain ⟨e, he, hp⟩ := h
 cases q : k.2.find? (lookP n t) with
 | none => exact absurd hp (by simpa using List.find?_eq_none.1 q e he)
 | some a =>
  have := List.find?_some q
  unfold lookP at this
  exact (Bool.and_eq_true _ _ ▸ this : _ ∧ _).2
theorem evict_valid {d : Ty.D tContentStore} {when_ : Int} (h : f_ValidContentStore d = true) : f_ValidContentStore (f_EvictStale d when_) = true := by
 obtain ⟨h1, h2, h3⟩ := valid_store.1 h
 have hk := keepE_sub (pFresh when_) d.2
 have hl := hk.length_le
 exact valid_store.2 ⟨h1, le_cap hl h2, h3.sub hk⟩
end Go.Proofs.Ytldgbnlcnlfmeaa
namespace Go.Proofs.Ytldgbnlcnlfmeaa
open Go.RowKit
set_option linter.unusedVariables false
set_option linter.unusedSimpArgs false
set_option maxHeartbeats 1000000 in
theorem C_laws_bigG (w : World) (A : Option Addr) (n c : Nat) : Calls Try.prog 7 #[.slice A n c] w (RetBP w (decide ((n : Int) > 1048576))) := by
 go_enter Try.func7, Try.ntmps7
 go_wp2
 go_ret
 first | exact ⟨rfl, rfl⟩ | exact ⟨rfl, Below.refl _ _⟩ | trace_state
end Go.Proofs.Ytldgbnlcnlfmeaa
