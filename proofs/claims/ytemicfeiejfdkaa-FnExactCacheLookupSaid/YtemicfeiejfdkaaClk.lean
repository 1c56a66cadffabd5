/- A store is asked. Printed by gen34.py. -/
import Derived.Test.YtemicfeiejfdkaaVcs
import Derived.Test.YtemicfeiejfdkaaRet
import Derived.Test.YtemicfeiejfdkaaMrk
namespace Go.Proofs.Ytemicfeiejfdkaa
open Go.RowKit
set_option linter.unusedVariables false
set_option linter.unusedSimpArgs false

def lookP (n : List (List UInt8)) (now : Int) (e : Ty.D tCacheEntry) : Bool := entName n e && f_FreshAt e.1 now
def noData : Ty.D tData := ([], [], [], 0, 0)
def f1_CacheLookup (x : Ty.D tContentStore) (n : List (List UInt8)) (now : Int) : Bool := x.2.any (lookP n now)
def f0_CacheLookup (x : Ty.D tContentStore) (n : List (List UInt8)) (now : Int) : Ty.D tData := match x.2.find? (lookP n now) with | some e => e.1 | none => noData
theorem N_CacheLookup {x : Ty.D tContentStore} {n : List (List UInt8)} {now : Int} (s0 : Ty.bulk tContentStore x ≤ 1048576) (s1 : Ty.bulk (.sl .str) n ≤ 1048576) : Ty.cntv tData (f0_CacheLookup x n now) ≤ 100000000000 := by
  refine cntv_bd (t := tData) (B := 1048576) ?_ (by decide)
  unfold f0_CacheLookup
  cases hq : x.2.find? (lookP n now) with
  | none => exact Nat.zero_le _
  | some e =>
    obtain ⟨i, hi, he⟩ := List.getElem_of_mem (List.mem_of_find?_eq_some hq)
    subst he
    exact entry_bulk' (Ty.bulk_at (store_bulk' s0) hi)
theorem ow_zeroData (w : World) : Ty.ow w tData [.slice none 0 0, .slice none 0 0, .slice none 0 0, .int .i64 0, .int .i64 0] noData [] :=
  ow_Data_mk (x := noData) (rd_ow_nil w _) (rd_ow_nil w _) (rd_ow_nil w _) ⟨by decide, by decide⟩ ⟨by decide, by decide⟩
set_option maxRecDepth 100000 in
set_option maxHeartbeats 2000000 in
theorem C_impl_CacheLookup (w : World) (cs1 : List Value) (x : Ty.D tContentStore) (cs2 : List Value) (n : List (List UInt8)) (now : Int) (h1 : Ty.rd w tContentStore cs1 x) (h2 : (Ty.sl .str).rd w cs2 n) (s0 : Ty.bulk tContentStore x ≤ 1048576) (s1 : Ty.bulk (.sl .str) n ≤ 1048576) (i2 : -9223372036854775808 ≤ now ∧ now ≤ 9223372036854775807) :
    Calls Try.prog 35 #[.agg cs1.toArray, .agg cs2.toArray, .int .i64 now] w (RetAgg2 w tData (f0_CacheLookup x n now) (.bool (f1_CacheLookup x n now))) := by
  obtain ⟨Ax1, cx1, rfl, xg0, xg1⟩ := rd_ContentStore h1
  obtain ⟨An0, cn0, rfl⟩ := Ty.rd_slv h2
  have s0e := store_bulk' s0
  have hxl := Ty.bulk_len s0e
  obtain ⟨_, _, _, m7, _, m9⟩ := Ty.rd_sl xg1
  have hF0 : f0_CacheLookup x n now = (match x.2.find? (lookP n now) with | some e => e.1 | none => noData) := rfl
  have hF1 : f1_CacheLookup x n now = x.2.any (lookP n now) := rfl
  generalize f0_CacheLookup x n now = F0 at hF0 ⊢
  generalize f1_CacheLookup x n now = F1 at hF1 ⊢
  have HQ0 := Lib.hid hF0
  have HQ1 := Lib.hid hF1
  clear hF0 hF1
  have kb0_0 : (((w.alloc (.cells #[.int .i64 x.1, .slice Ax1 (List.length x.2) cx1] 24)).alloc (.cells #[.slice An0 (List.length n) cn0] 47)).alloc (.cells #[.slice none 0 0, .slice none 0 0, .slice none 0 0, .int .i64 0, .int .i64 0] 50)).cell? ⟨w.heap.size, 0, none⟩ = some (.int .i64 x.1) := ((World.cell?_alloc_lt _ _ _ (by simp only [World.size_alloc]; omega)).trans ((World.cell?_alloc_lt _ _ _ (by simp only [World.size_alloc]; omega)).trans (cell_new w _ _ 0 (by first | rfl | simp only [World.size_alloc]))))
  have kb0_1 : (((w.alloc (.cells #[.int .i64 x.1, .slice Ax1 (List.length x.2) cx1] 24)).alloc (.cells #[.slice An0 (List.length n) cn0] 47)).alloc (.cells #[.slice none 0 0, .slice none 0 0, .slice none 0 0, .int .i64 0, .int .i64 0] 50)).cell? ⟨w.heap.size, 1, none⟩ = some (.slice Ax1 (List.length x.2) cx1) := ((World.cell?_alloc_lt _ _ _ (by simp only [World.size_alloc]; omega)).trans ((World.cell?_alloc_lt _ _ _ (by simp only [World.size_alloc]; omega)).trans (cell_new w _ _ 1 (by first | rfl | simp only [World.size_alloc]))))
  have kb1_0 : (((w.alloc (.cells #[.int .i64 x.1, .slice Ax1 (List.length x.2) cx1] 24)).alloc (.cells #[.slice An0 (List.length n) cn0] 47)).alloc (.cells #[.slice none 0 0, .slice none 0 0, .slice none 0 0, .int .i64 0, .int .i64 0] 50)).cell? ⟨w.heap.size + 1, 0, none⟩ = some (.slice An0 (List.length n) cn0) := ((World.cell?_alloc_lt _ _ _ (by simp only [World.size_alloc]; omega)).trans (cell_new (w.alloc (.cells #[.int .i64 x.1, .slice Ax1 (List.length x.2) cx1] 24)) _ _ 0 (by first | rfl | simp only [World.size_alloc])))
  have kb2_0 : (((w.alloc (.cells #[.int .i64 x.1, .slice Ax1 (List.length x.2) cx1] 24)).alloc (.cells #[.slice An0 (List.length n) cn0] 47)).alloc (.cells #[.slice none 0 0, .slice none 0 0, .slice none 0 0, .int .i64 0, .int .i64 0] 50)).cell? ⟨w.heap.size + 1 + 1, 0, none⟩ = some (.slice none 0 0) := (cell_new ((w.alloc (.cells #[.int .i64 x.1, .slice Ax1 (List.length x.2) cx1] 24)).alloc (.cells #[.slice An0 (List.length n) cn0] 47)) _ _ 0 (by first | rfl | simp only [World.size_alloc]))
  have kb2_1 : (((w.alloc (.cells #[.int .i64 x.1, .slice Ax1 (List.length x.2) cx1] 24)).alloc (.cells #[.slice An0 (List.length n) cn0] 47)).alloc (.cells #[.slice none 0 0, .slice none 0 0, .slice none 0 0, .int .i64 0, .int .i64 0] 50)).cell? ⟨w.heap.size + 1 + 1, 1, none⟩ = some (.slice none 0 0) := (cell_new ((w.alloc (.cells #[.int .i64 x.1, .slice Ax1 (List.length x.2) cx1] 24)).alloc (.cells #[.slice An0 (List.length n) cn0] 47)) _ _ 1 (by first | rfl | simp only [World.size_alloc]))
  have kb2_2 : (((w.alloc (.cells #[.int .i64 x.1, .slice Ax1 (List.length x.2) cx1] 24)).alloc (.cells #[.slice An0 (List.length n) cn0] 47)).alloc (.cells #[.slice none 0 0, .slice none 0 0, .slice none 0 0, .int .i64 0, .int .i64 0] 50)).cell? ⟨w.heap.size + 1 + 1, 2, none⟩ = some (.slice none 0 0) := (cell_new ((w.alloc (.cells #[.int .i64 x.1, .slice Ax1 (List.length x.2) cx1] 24)).alloc (.cells #[.slice An0 (List.length n) cn0] 47)) _ _ 2 (by first | rfl | simp only [World.size_alloc]))
  have kb2_3 : (((w.alloc (.cells #[.int .i64 x.1, .slice Ax1 (List.length x.2) cx1] 24)).alloc (.cells #[.slice An0 (List.length n) cn0] 47)).alloc (.cells #[.slice none 0 0, .slice none 0 0, .slice none 0 0, .int .i64 0, .int .i64 0] 50)).cell? ⟨w.heap.size + 1 + 1, 3, none⟩ = some (.int .i64 0) := (cell_new ((w.alloc (.cells #[.int .i64 x.1, .slice Ax1 (List.length x.2) cx1] 24)).alloc (.cells #[.slice An0 (List.length n) cn0] 47)) _ _ 3 (by first | rfl | simp only [World.size_alloc]))
  have kb2_4 : (((w.alloc (.cells #[.int .i64 x.1, .slice Ax1 (List.length x.2) cx1] 24)).alloc (.cells #[.slice An0 (List.length n) cn0] 47)).alloc (.cells #[.slice none 0 0, .slice none 0 0, .slice none 0 0, .int .i64 0, .int .i64 0] 50)).cell? ⟨w.heap.size + 1 + 1, 4, none⟩ = some (.int .i64 0) := (cell_new ((w.alloc (.cells #[.int .i64 x.1, .slice Ax1 (List.length x.2) cx1] 24)).alloc (.cells #[.slice An0 (List.length n) cn0] 47)) _ _ 4 (by first | rfl | simp only [World.size_alloc]))
  have hvb : Below w.heap.size w (((w.alloc (.cells #[.int .i64 x.1, .slice Ax1 (List.length x.2) cx1] 24)).alloc (.cells #[.slice An0 (List.length n) cn0] 47)).alloc (.cells #[.slice none 0 0, .slice none 0 0, .slice none 0 0, .int .i64 0, .int .i64 0] 50)) := (by repeat' (first | (with_reducible exact Below.refl _ _) | (with_reducible assumption) | (with_reducible refine bel_set ?_ (by (try dsimp only); omega) _) | (with_reducible refine bel_alloc ?_ _) | (with_reducible refine bel_drewN ?_ _) | (with_reducible refine bel_drew ?_)))
  have zb0 := Lib.hid (show (((w.alloc (.cells #[.int .i64 x.1, .slice Ax1 (List.length x.2) cx1] 24)).alloc (.cells #[.slice An0 (List.length n) cn0] 47)).alloc (.cells #[.slice none 0 0, .slice none 0 0, .slice none 0 0, .int .i64 0, .int .i64 0] 50)).heap.size = w.heap.size + 1 + 1 + 1 from by simp only [World.size_alloc])
  have zb : w.heap.size + 1 + 1 < (((w.alloc (.cells #[.int .i64 x.1, .slice Ax1 (List.length x.2) cx1] 24)).alloc (.cells #[.slice An0 (List.length n) cn0] 47)).alloc (.cells #[.slice none 0 0, .slice none 0 0, .slice none 0 0, .int .i64 0, .int .i64 0] 50)).heap.size := by simp only [World.size_alloc]; omega
  have hR0 : Blk (((w.alloc (.cells #[.int .i64 x.1, .slice Ax1 (List.length x.2) cx1] 24)).alloc (.cells #[.slice An0 (List.length n) cn0] 47)).alloc (.cells #[.slice none 0 0, .slice none 0 0, .slice none 0 0, .int .i64 0, .int .i64 0] 50)) (w.heap.size + 1 + 1) 50 #[.slice none 0 0, .slice none 0 0, .slice none 0 0, .int .i64 0, .int .i64 0] := by have := Blk.new ((w.alloc (.cells #[.int .i64 x.1, .slice Ax1 (List.length x.2) cx1] 24)).alloc (.cells #[.slice An0 (List.length n) cn0] 47)) 50 #[.slice none 0 0, .slice none 0 0, .slice none 0 0, .int .i64 0, .int .i64 0]; rwa [World.size_alloc, World.size_alloc] at this
  go_enter Try.func35, Try.ntmps35
  go_wp2
  generalize (((w.alloc (.cells #[.int .i64 x.1, .slice Ax1 (List.length x.2) cx1] 24)).alloc (.cells #[.slice An0 (List.length n) cn0] 47)).alloc (.cells #[.slice none 0 0, .slice none 0 0, .slice none 0 0, .int .i64 0, .int .i64 0] 50)) = WX at hR0 kb0_0 kb0_1 kb1_0 kb2_0 kb2_1 kb2_2 kb2_3 kb2_4 hvb zb zb0 ⊢
  have HC : Hid (∀ V, Below WX.heap.size WX V → V.cell? ⟨w.heap.size, 0, none⟩ = some (.int .i64 x.1) ∧ V.cell? ⟨w.heap.size, 1, none⟩ = some (.slice Ax1 (List.length x.2) cx1) ∧ V.cell? ⟨w.heap.size + 1, 0, none⟩ = some (.slice An0 (List.length n) cn0) ∧ V.cell? ⟨w.heap.size + 1 + 1, 0, none⟩ = some (.slice none 0 0) ∧ V.cell? ⟨w.heap.size + 1 + 1, 1, none⟩ = some (.slice none 0 0) ∧ V.cell? ⟨w.heap.size + 1 + 1, 2, none⟩ = some (.slice none 0 0) ∧ V.cell? ⟨w.heap.size + 1 + 1, 3, none⟩ = some (.int .i64 0) ∧ V.cell? ⟨w.heap.size + 1 + 1, 4, none⟩ = some (.int .i64 0)) := fun V hW => ⟨(hW.cell (p := ⟨w.heap.size, 0, none⟩) (by dsimp only; omega)).trans kb0_0, (hW.cell (p := ⟨w.heap.size, 1, none⟩) (by dsimp only; omega)).trans kb0_1, (hW.cell (p := ⟨w.heap.size + 1, 0, none⟩) (by dsimp only; omega)).trans kb1_0, (hW.cell (p := ⟨w.heap.size + 1 + 1, 0, none⟩) (by dsimp only; omega)).trans kb2_0, (hW.cell (p := ⟨w.heap.size + 1 + 1, 1, none⟩) (by dsimp only; omega)).trans kb2_1, (hW.cell (p := ⟨w.heap.size + 1 + 1, 2, none⟩) (by dsimp only; omega)).trans kb2_2, (hW.cell (p := ⟨w.heap.size + 1 + 1, 3, none⟩) (by dsimp only; omega)).trans kb2_3, (hW.cell (p := ⟨w.heap.size + 1 + 1, 4, none⟩) (by dsimp only; omega)).trans kb2_4⟩
  clear kb0_0 kb0_1 kb1_0 kb2_0 kb2_1 kb2_2 kb2_3 kb2_4
  go_loopw [13] (fun i wr => ∃ k : Nat, k ≤ List.length x.2 ∧ i = .int .i64 k ∧ (x.2.take k).any (lookP n now) = false ∧ Below WX.heap.size WX wr) (fun i _ => List.length x.2 - (intOf i).toNat)
  case atStart => exact ⟨0, by omega, rfl, by first | rfl | simp, Below.refl _ _⟩
  case round =>
    obtain ⟨k, hk, rfl, ht, hb⟩ := hrel
    have hw : Below w.heap.size w wr := bel_trans hvb hb
    have HT := Lib.hid ht
    clear ht
    obtain ⟨j0, j1, j2, j3, j4, j5, j6, j7⟩ := HC.out _ (hb)
    have hsw := hb.size
    have zw0 : w.heap.size < wr.heap.size := by omega
    have zw1 : w.heap.size + 1 < wr.heap.size := by omega
    by_cases hlt : k < List.length x.2
    · have HS := Lib.hid (any_take_succ (lookP n now) x.2 hlt)
      obtain ⟨b, o, dse, rfl, hle, hcelle, hrde⟩ := Ty.rd_at (Ty.rd_below hw xg1) hlt
      have hrde' := hrde
      obtain ⟨Ae00, ce00, Ae01, ce01, Ae02, ce02, rfl, eg0, eg1⟩ := rd_CacheEntry hrde
      have e0 : wr.cell? ⟨b, o + k * 6, none⟩ = some (.slice Ae00 (List.length (x.2)[k].1.1) ce00) := by simpa [Ty.sz] using hcelle 0 (by decide)
      have e1 : wr.cell? ⟨b, o + k * 6 + 1, none⟩ = some (.slice Ae01 (List.length (x.2)[k].1.2.1) ce01) := by simpa [Ty.sz] using hcelle 1 (by decide)
      have e2 : wr.cell? ⟨b, o + k * 6 + 2, none⟩ = some (.slice Ae02 (List.length (x.2)[k].1.2.2.1) ce02) := by simpa [Ty.sz] using hcelle 2 (by decide)
      have e3 : wr.cell? ⟨b, o + k * 6 + 3, none⟩ = some (.int .i64 (x.2)[k].1.2.2.2.1) := by simpa [Ty.sz] using hcelle 3 (by decide)
      have e4 : wr.cell? ⟨b, o + k * 6 + 4, none⟩ = some (.int .i64 (x.2)[k].1.2.2.2.2) := by simpa [Ty.sz] using hcelle 4 (by decide)
      have e5 : wr.cell? ⟨b, o + k * 6 + 5, none⟩ = some (.int .i64 (x.2)[k].2) := by simpa [Ty.sz] using hcelle 5 (by decide)
      clear hcelle hle
      have hng : Ty.rd wr (.sl .str) [.slice Ae00 (List.length (x.2)[k].1.1) ce00] (x.2)[k].1.1 := rd_pr_head eg0
      have hlb : b < wr.heap.size := World.block_lt_of_cell? wr _ e0
      have i0 : (0 : Int) ≤ (k : Int) := by omega
      have i1 : (k : Int) < (List.length x.2 : Int) := by omega
      have HP := Lib.hid (show lookP n now (x.2)[k] = (decide ((x.2)[k].1.1 = n) && f_FreshAt (x.2)[k].1 now) from rfl)
      have kb0_0 : (wr.alloc (.cells #[.slice Ae00 (List.length (x.2)[k].1.1) ce00, .slice Ae01 (List.length (x.2)[k].1.2.1) ce01, .slice Ae02 (List.length (x.2)[k].1.2.2.1) ce02, .int .i64 (x.2)[k].1.2.2.2.1, .int .i64 (x.2)[k].1.2.2.2.2, .int .i64 (x.2)[k].2] 91)).cell? ⟨wr.heap.size, 0, none⟩ = some (.slice Ae00 (List.length (x.2)[k].1.1) ce00) := (cell_new wr _ _ 0 (by first | rfl | simp only [World.size_alloc]))
      have kb0_1 : (wr.alloc (.cells #[.slice Ae00 (List.length (x.2)[k].1.1) ce00, .slice Ae01 (List.length (x.2)[k].1.2.1) ce01, .slice Ae02 (List.length (x.2)[k].1.2.2.1) ce02, .int .i64 (x.2)[k].1.2.2.2.1, .int .i64 (x.2)[k].1.2.2.2.2, .int .i64 (x.2)[k].2] 91)).cell? ⟨wr.heap.size, 1, none⟩ = some (.slice Ae01 (List.length (x.2)[k].1.2.1) ce01) := (cell_new wr _ _ 1 (by first | rfl | simp only [World.size_alloc]))
      have kb0_2 : (wr.alloc (.cells #[.slice Ae00 (List.length (x.2)[k].1.1) ce00, .slice Ae01 (List.length (x.2)[k].1.2.1) ce01, .slice Ae02 (List.length (x.2)[k].1.2.2.1) ce02, .int .i64 (x.2)[k].1.2.2.2.1, .int .i64 (x.2)[k].1.2.2.2.2, .int .i64 (x.2)[k].2] 91)).cell? ⟨wr.heap.size, 2, none⟩ = some (.slice Ae02 (List.length (x.2)[k].1.2.2.1) ce02) := (cell_new wr _ _ 2 (by first | rfl | simp only [World.size_alloc]))
      have kb0_3 : (wr.alloc (.cells #[.slice Ae00 (List.length (x.2)[k].1.1) ce00, .slice Ae01 (List.length (x.2)[k].1.2.1) ce01, .slice Ae02 (List.length (x.2)[k].1.2.2.1) ce02, .int .i64 (x.2)[k].1.2.2.2.1, .int .i64 (x.2)[k].1.2.2.2.2, .int .i64 (x.2)[k].2] 91)).cell? ⟨wr.heap.size, 3, none⟩ = some (.int .i64 (x.2)[k].1.2.2.2.1) := (cell_new wr _ _ 3 (by first | rfl | simp only [World.size_alloc]))
      have kb0_4 : (wr.alloc (.cells #[.slice Ae00 (List.length (x.2)[k].1.1) ce00, .slice Ae01 (List.length (x.2)[k].1.2.1) ce01, .slice Ae02 (List.length (x.2)[k].1.2.2.1) ce02, .int .i64 (x.2)[k].1.2.2.2.1, .int .i64 (x.2)[k].1.2.2.2.2, .int .i64 (x.2)[k].2] 91)).cell? ⟨wr.heap.size, 4, none⟩ = some (.int .i64 (x.2)[k].1.2.2.2.2) := (cell_new wr _ _ 4 (by first | rfl | simp only [World.size_alloc]))
      have kb0_5 : (wr.alloc (.cells #[.slice Ae00 (List.length (x.2)[k].1.1) ce00, .slice Ae01 (List.length (x.2)[k].1.2.1) ce01, .slice Ae02 (List.length (x.2)[k].1.2.2.1) ce02, .int .i64 (x.2)[k].1.2.2.2.1, .int .i64 (x.2)[k].1.2.2.2.2, .int .i64 (x.2)[k].2] 91)).cell? ⟨wr.heap.size, 5, none⟩ = some (.int .i64 (x.2)[k].2) := (cell_new wr _ _ 5 (by first | rfl | simp only [World.size_alloc]))
      have hve : Below wr.heap.size wr (wr.alloc (.cells #[.slice Ae00 (List.length (x.2)[k].1.1) ce00, .slice Ae01 (List.length (x.2)[k].1.2.1) ce01, .slice Ae02 (List.length (x.2)[k].1.2.2.1) ce02, .int .i64 (x.2)[k].1.2.2.2.1, .int .i64 (x.2)[k].1.2.2.2.2, .int .i64 (x.2)[k].2] 91)) := (by repeat' (first | (with_reducible exact Below.refl _ _) | (with_reducible assumption) | (with_reducible refine bel_set ?_ (by (try dsimp only); omega) _) | (with_reducible refine bel_alloc ?_ _) | (with_reducible refine bel_drewN ?_ _) | (with_reducible refine bel_drew ?_)))
      have ze0 := Lib.hid (show (wr.alloc (.cells #[.slice Ae00 (List.length (x.2)[k].1.1) ce00, .slice Ae01 (List.length (x.2)[k].1.2.1) ce01, .slice Ae02 (List.length (x.2)[k].1.2.2.1) ce02, .int .i64 (x.2)[k].1.2.2.2.1, .int .i64 (x.2)[k].1.2.2.2.2, .int .i64 (x.2)[k].2] 91)).heap.size = wr.heap.size + 1 from by simp only [World.size_alloc])
      have ze : wr.heap.size < (wr.alloc (.cells #[.slice Ae00 (List.length (x.2)[k].1.1) ce00, .slice Ae01 (List.length (x.2)[k].1.2.1) ce01, .slice Ae02 (List.length (x.2)[k].1.2.2.1) ce02, .int .i64 (x.2)[k].1.2.2.2.1, .int .i64 (x.2)[k].1.2.2.2.2, .int .i64 (x.2)[k].2] 91)).heap.size := by simp only [World.size_alloc]; omega
      go_wp2_with fail
      generalize (wr.alloc (.cells #[.slice Ae00 (List.length (x.2)[k].1.1) ce00, .slice Ae01 (List.length (x.2)[k].1.2.1) ce01, .slice Ae02 (List.length (x.2)[k].1.2.2.1) ce02, .int .i64 (x.2)[k].1.2.2.2.1, .int .i64 (x.2)[k].1.2.2.2.2, .int .i64 (x.2)[k].2] 91)) = WE at kb0_0 kb0_1 kb0_2 kb0_3 kb0_4 kb0_5 hve ze ze0 ⊢
      have HD : Hid (∀ V, Below WE.heap.size WE V → V.cell? ⟨wr.heap.size, 0, none⟩ = some (.slice Ae00 (List.length (x.2)[k].1.1) ce00) ∧ V.cell? ⟨wr.heap.size, 1, none⟩ = some (.slice Ae01 (List.length (x.2)[k].1.2.1) ce01) ∧ V.cell? ⟨wr.heap.size, 2, none⟩ = some (.slice Ae02 (List.length (x.2)[k].1.2.2.1) ce02) ∧ V.cell? ⟨wr.heap.size, 3, none⟩ = some (.int .i64 (x.2)[k].1.2.2.2.1) ∧ V.cell? ⟨wr.heap.size, 4, none⟩ = some (.int .i64 (x.2)[k].1.2.2.2.2) ∧ V.cell? ⟨wr.heap.size, 5, none⟩ = some (.int .i64 (x.2)[k].2)) := fun V hW => ⟨(hW.cell (p := ⟨wr.heap.size, 0, none⟩) (by dsimp only; omega)).trans kb0_0, (hW.cell (p := ⟨wr.heap.size, 1, none⟩) (by dsimp only; omega)).trans kb0_1, (hW.cell (p := ⟨wr.heap.size, 2, none⟩) (by dsimp only; omega)).trans kb0_2, (hW.cell (p := ⟨wr.heap.size, 3, none⟩) (by dsimp only; omega)).trans kb0_3, (hW.cell (p := ⟨wr.heap.size, 4, none⟩) (by dsimp only; omega)).trans kb0_4, (hW.cell (p := ⟨wr.heap.size, 5, none⟩) (by dsimp only; omega)).trans kb0_5⟩
      clear kb0_0 kb0_1 kb0_2 kb0_3 kb0_4 kb0_5
      refine (C_impl_EqualNames _ _ _ _ _ (Ty.rd_below hve hng) (Ty.rd_below (bel_trans hw hve) h2)).mono ?_
      rintro e w2 ⟨rfl, hb2⟩
      clear j0 j1 j2 j3 j4 j5 j6 j7 e0 e1 e2 e3 e4 e5
      cases q0 : decide ((x.2)[k].1.1 = n)
      · have HZ := Lib.hid (show lookP n now (x.2)[k] = false from by rw [HP.out, q0]; rfl)
        go_wp2
        go_roundw
        case rel => exact ⟨k + 1, by omega, by go_num, by rw [HS.out, HT.out, HZ.out]; rfl, bel_trans hb (bel_trans hve hb2)⟩
        case measure => simp [intOf]; omega
      obtain ⟨y0, y1, y2, y3, y4, y5⟩ := HD.out _ (hb2)
      have ze2 : wr.heap.size < w2.heap.size := by have := hb2.size; omega
      go_wp2_with fail
      refine (C_impl_FreshAt _ _ (x.2)[k].1 now (Ty.rd_below (bel_trans hve hb2) eg0) (entry_bulk' (Ty.bulk_at s0e hlt)) i2).mono ?_
      rintro e w3 ⟨rfl, hb3⟩
      have hv3 : Below wr.heap.size wr w3 := bel_trans hve (bel_trans hb2 hb3)
      clear y0 y1 y2 y3 y4 y5
      cases q1 : f_FreshAt (x.2)[k].1 now
      · have HZ := Lib.hid (show lookP n now (x.2)[k] = false from by rw [HP.out, q1]; simp)
        go_wp2
        go_roundw
        case rel => exact ⟨k + 1, by omega, by go_num, by rw [HS.out, HT.out, HZ.out]; rfl, bel_trans hb hv3⟩
        case measure => simp [intOf]; omega
      have HZ := Lib.hid (show lookP n now (x.2)[k] = true from by rw [HP.out, q0, q1]; rfl)
      have HF1 : Hid (F1 = true) := by have := HQ1.out; rwa [List.any_eq_true.2 ⟨_, List.getElem_mem hlt, HZ.out⟩] at this
      have HF0 : Hid (F0 = (x.2)[k].1) := by have := HQ0.out; rwa [find_hit _ _ hlt HT.out HZ.out] at this
      obtain ⟨y0, y1, y2, y3, y4, y5⟩ := HD.out _ ((bel_trans hb2 hb3))
      have ze3 : wr.heap.size < w3.heap.size := by have := hb3.size; omega
      go_wp2_with fail
      refine (C_impl_copyData _ _ (x.2)[k].1 (Ty.rd_below hv3 eg0) (Nat.le_trans (entry_bulk' (Ty.bulk_at s0e hlt)) (by decide))).mono ?_
      rintro e w9 ⟨cs9, fp9, rfl, how9, hfr9, hb9⟩
      obtain ⟨Aq0, cq0, Aq1, cq1, Aq2, cq2, rfl⟩ := ow_Data how9
      have hz9 := hb9.size
      have hx9 : Below WX.heap.size WX w9 := bel_trans (bel_trans hb hv3) hb9
      have hR9 := hR0.below hx9 hR0.lt
      have hw9 : Below w.heap.size w w9 := bel_trans hvb hx9
      have kR_9_0 : w9.cell? ⟨w.heap.size + 1 + 1, 0, none⟩ = some (.slice none 0 0) := hR9.cell 0
      have fR_9_0 : w9.frozen? ⟨w.heap.size + 1 + 1, 0, none⟩ = false := hR9.frozen 0
      have kR_9_1 : w9.cell? ⟨w.heap.size + 1 + 1, 1, none⟩ = some (.slice none 0 0) := hR9.cell 1
      have fR_9_1 : w9.frozen? ⟨w.heap.size + 1 + 1, 1, none⟩ = false := hR9.frozen 1
      have kR_9_2 : w9.cell? ⟨w.heap.size + 1 + 1, 2, none⟩ = some (.slice none 0 0) := hR9.cell 2
      have fR_9_2 : w9.frozen? ⟨w.heap.size + 1 + 1, 2, none⟩ = false := hR9.frozen 2
      have kR_9_3 : w9.cell? ⟨w.heap.size + 1 + 1, 3, none⟩ = some (.int .i64 0) := hR9.cell 3
      have fR_9_3 : w9.frozen? ⟨w.heap.size + 1 + 1, 3, none⟩ = false := hR9.frozen 3
      have kR_9_4 : w9.cell? ⟨w.heap.size + 1 + 1, 4, none⟩ = some (.int .i64 0) := hR9.cell 4
      have fR_9_4 : w9.frozen? ⟨w.heap.size + 1 + 1, 4, none⟩ = false := hR9.frozen 4
      have zR_9 : w.heap.size + 1 + 1 < w9.heap.size := hR9.lt
      have hzs : WX.heap.size ≤ w3.heap.size := (bel_trans hb hv3).size
      go_wp2
      refine bodyPost_ret (v := .tuple #[.agg #[.slice Aq0 (List.length (x.2)[k].1.1) cq0, .slice Aq1 (List.length (x.2)[k].1.2.1) cq1, .slice Aq2 (List.length (x.2)[k].1.2.2.1) cq2, .int .i64 (x.2)[k].1.2.2.2.1, .int .i64 (x.2)[k].1.2.2.2.2], .bool true]) (by simp [results, Try.results35, go_sem, kR_9_0, fR_9_0, kR_9_1, fR_9_1, kR_9_2, fR_9_2, kR_9_3, fR_9_3, kR_9_4, fR_9_4, zR_9]) rfl ?_
      rw [HF1.out, HF0.out]
      exact ⟨_, fp9, rfl, Ty.ow_keep (by intro b hb'; have hb'' := (hfr9).2 b hb'; (try simp only [World.size_alloc, World.size_setCell, size_drewN, World.size_drew] at hb''); repeat (first | (with_reducible rfl) | (rw [Below.heap_setCell _ _ _ _ (by (try dsimp only); omega)]) | (rw [Below.heap_alloc _ _ _ (by (try simp only [World.size_alloc, World.size_setCell]); omega)]))) how9, hfr9.mono (by omega) (by (try simp only [World.size_setCell]); omega), (by repeat' (first | (with_reducible exact Below.refl _ _) | (with_reducible assumption) | (with_reducible refine bel_set ?_ (by (try dsimp only); omega) _) | (with_reducible refine bel_alloc ?_ _) | (with_reducible refine bel_drewN ?_ _) | (with_reducible refine bel_drew ?_)))⟩
    · have HE : Hid (x.2.any (lookP n now) = false) := by have := HT.out; rwa [List.take_of_length_le (by omega)] at this
      have HF1 : Hid (F1 = false) := by have := HQ1.out; rwa [HE.out] at this
      have HF0 : Hid (F0 = noData) := by have := HQ0.out; rwa [find_miss _ _ HE.out] at this
      have hR8 := hR0.below hb hR0.lt
      have kR_8_0 : wr.cell? ⟨w.heap.size + 1 + 1, 0, none⟩ = some (.slice none 0 0) := hR8.cell 0
      have fR_8_0 : wr.frozen? ⟨w.heap.size + 1 + 1, 0, none⟩ = false := hR8.frozen 0
      have kR_8_1 : wr.cell? ⟨w.heap.size + 1 + 1, 1, none⟩ = some (.slice none 0 0) := hR8.cell 1
      have fR_8_1 : wr.frozen? ⟨w.heap.size + 1 + 1, 1, none⟩ = false := hR8.frozen 1
      have kR_8_2 : wr.cell? ⟨w.heap.size + 1 + 1, 2, none⟩ = some (.slice none 0 0) := hR8.cell 2
      have fR_8_2 : wr.frozen? ⟨w.heap.size + 1 + 1, 2, none⟩ = false := hR8.frozen 2
      have kR_8_3 : wr.cell? ⟨w.heap.size + 1 + 1, 3, none⟩ = some (.int .i64 0) := hR8.cell 3
      have fR_8_3 : wr.frozen? ⟨w.heap.size + 1 + 1, 3, none⟩ = false := hR8.frozen 3
      have kR_8_4 : wr.cell? ⟨w.heap.size + 1 + 1, 4, none⟩ = some (.int .i64 0) := hR8.cell 4
      have fR_8_4 : wr.frozen? ⟨w.heap.size + 1 + 1, 4, none⟩ = false := hR8.frozen 4
      have zR_8 : w.heap.size + 1 + 1 < wr.heap.size := hR8.lt
      go_wp2
      refine bodyPost_ret (v := .tuple #[.agg #[.slice none 0 0, .slice none 0 0, .slice none 0 0, .int .i64 0, .int .i64 0], .bool false]) (by simp [results, Try.results35, go_sem, kR_8_0, fR_8_0, kR_8_1, fR_8_1, kR_8_2, fR_8_2, kR_8_3, fR_8_3, kR_8_4, fR_8_4, zR_8]) rfl ?_
      rw [HF1.out, HF0.out]
      exact ⟨_, [], rfl, ow_zeroData _, FrI.nil _ _, (by repeat' (first | (with_reducible exact Below.refl _ _) | (with_reducible assumption) | (with_reducible refine bel_set ?_ (by (try dsimp only); omega) _) | (with_reducible refine bel_alloc ?_ _) | (with_reducible refine bel_drewN ?_ _) | (with_reducible refine bel_drew ?_)))⟩
set_option maxRecDepth 100000 in
set_option maxHeartbeats 2000000 in
theorem C_spec_CacheLookup (w : World) (cs1 : List Value) (x : Ty.D tContentStore) (cs2 : List Value) (n : List (List UInt8)) (now : Int) (h1 : Ty.rd w tContentStore cs1 x) (h2 : (Ty.sl .str).rd w cs2 n) (s0 : Ty.bulk tContentStore x ≤ 1048576) (s1 : Ty.bulk (.sl .str) n ≤ 1048576) (i2 : -9223372036854775808 ≤ now ∧ now ≤ 9223372036854775807) :
    Calls Try.prog 33 #[.agg cs1.toArray, .agg cs2.toArray, .int .i64 now] w (RetAgg2 w tData (f0_CacheLookup x n now) (.bool (f1_CacheLookup x n now))) := by
  obtain ⟨Ax1, cx1, rfl, xg0, xg1⟩ := rd_ContentStore h1
  obtain ⟨An0, cn0, rfl⟩ := Ty.rd_slv h2
  have s0e := store_bulk' s0
  have hxl := Ty.bulk_len s0e
  obtain ⟨_, _, _, m7, _, m9⟩ := Ty.rd_sl xg1
  have hF0 : f0_CacheLookup x n now = (match x.2.find? (lookP n now) with | some e => e.1 | none => noData) := rfl
  have hF1 : f1_CacheLookup x n now = x.2.any (lookP n now) := rfl
  generalize f0_CacheLookup x n now = F0 at hF0 ⊢
  generalize f1_CacheLookup x n now = F1 at hF1 ⊢
  have HQ0 := Lib.hid hF0
  have HQ1 := Lib.hid hF1
  clear hF0 hF1
  have kb0_0 : (((w.alloc (.cells #[.int .i64 x.1, .slice Ax1 (List.length x.2) cx1] 24)).alloc (.cells #[.slice An0 (List.length n) cn0] 47)).alloc (.cells #[.slice none 0 0, .slice none 0 0, .slice none 0 0, .int .i64 0, .int .i64 0] 50)).cell? ⟨w.heap.size, 0, none⟩ = some (.int .i64 x.1) := ((World.cell?_alloc_lt _ _ _ (by simp only [World.size_alloc]; omega)).trans ((World.cell?_alloc_lt _ _ _ (by simp only [World.size_alloc]; omega)).trans (cell_new w _ _ 0 (by first | rfl | simp only [World.size_alloc]))))
  have kb0_1 : (((w.alloc (.cells #[.int .i64 x.1, .slice Ax1 (List.length x.2) cx1] 24)).alloc (.cells #[.slice An0 (List.length n) cn0] 47)).alloc (.cells #[.slice none 0 0, .slice none 0 0, .slice none 0 0, .int .i64 0, .int .i64 0] 50)).cell? ⟨w.heap.size, 1, none⟩ = some (.slice Ax1 (List.length x.2) cx1) := ((World.cell?_alloc_lt _ _ _ (by simp only [World.size_alloc]; omega)).trans ((World.cell?_alloc_lt _ _ _ (by simp only [World.size_alloc]; omega)).trans (cell_new w _ _ 1 (by first | rfl | simp only [World.size_alloc]))))
  have kb1_0 : (((w.alloc (.cells #[.int .i64 x.1, .slice Ax1 (List.length x.2) cx1] 24)).alloc (.cells #[.slice An0 (List.length n) cn0] 47)).alloc (.cells #[.slice none 0 0, .slice none 0 0, .slice none 0 0, .int .i64 0, .int .i64 0] 50)).cell? ⟨w.heap.size + 1, 0, none⟩ = some (.slice An0 (List.length n) cn0) := ((World.cell?_alloc_lt _ _ _ (by simp only [World.size_alloc]; omega)).trans (cell_new (w.alloc (.cells #[.int .i64 x.1, .slice Ax1 (List.length x.2) cx1] 24)) _ _ 0 (by first | rfl | simp only [World.size_alloc])))
  have kb2_0 : (((w.alloc (.cells #[.int .i64 x.1, .slice Ax1 (List.length x.2) cx1] 24)).alloc (.cells #[.slice An0 (List.length n) cn0] 47)).alloc (.cells #[.slice none 0 0, .slice none 0 0, .slice none 0 0, .int .i64 0, .int .i64 0] 50)).cell? ⟨w.heap.size + 1 + 1, 0, none⟩ = some (.slice none 0 0) := (cell_new ((w.alloc (.cells #[.int .i64 x.1, .slice Ax1 (List.length x.2) cx1] 24)).alloc (.cells #[.slice An0 (List.length n) cn0] 47)) _ _ 0 (by first | rfl | simp only [World.size_alloc]))
  have kb2_1 : (((w.alloc (.cells #[.int .i64 x.1, .slice Ax1 (List.length x.2) cx1] 24)).alloc (.cells #[.slice An0 (List.length n) cn0] 47)).alloc (.cells #[.slice none 0 0, .slice none 0 0, .slice none 0 0, .int .i64 0, .int .i64 0] 50)).cell? ⟨w.heap.size + 1 + 1, 1, none⟩ = some (.slice none 0 0) := (cell_new ((w.alloc (.cells #[.int .i64 x.1, .slice Ax1 (List.length x.2) cx1] 24)).alloc (.cells #[.slice An0 (List.length n) cn0] 47)) _ _ 1 (by first | rfl | simp only [World.size_alloc]))
  have kb2_2 : (((w.alloc (.cells #[.int .i64 x.1, .slice Ax1 (List.length x.2) cx1] 24)).alloc (.cells #[.slice An0 (List.length n) cn0] 47)).alloc (.cells #[.slice none 0 0, .slice none 0 0, .slice none 0 0, .int .i64 0, .int .i64 0] 50)).cell? ⟨w.heap.size + 1 + 1, 2, none⟩ = some (.slice none 0 0) := (cell_new ((w.alloc (.cells #[.int .i64 x.1, .slice Ax1 (List.length x.2) cx1] 24)).alloc (.cells #[.slice An0 (List.length n) cn0] 47)) _ _ 2 (by first | rfl | simp only [World.size_alloc]))
  have kb2_3 : (((w.alloc (.cells #[.int .i64 x.1, .slice Ax1 (List.length x.2) cx1] 24)).alloc (.cells #[.slice An0 (List.length n) cn0] 47)).alloc (.cells #[.slice none 0 0, .slice none 0 0, .slice none 0 0, .int .i64 0, .int .i64 0] 50)).cell? ⟨w.heap.size + 1 + 1, 3, none⟩ = some (.int .i64 0) := (cell_new ((w.alloc (.cells #[.int .i64 x.1, .slice Ax1 (List.length x.2) cx1] 24)).alloc (.cells #[.slice An0 (List.length n) cn0] 47)) _ _ 3 (by first | rfl | simp only [World.size_alloc]))
  have kb2_4 : (((w.alloc (.cells #[.int .i64 x.1, .slice Ax1 (List.length x.2) cx1] 24)).alloc (.cells #[.slice An0 (List.length n) cn0] 47)).alloc (.cells #[.slice none 0 0, .slice none 0 0, .slice none 0 0, .int .i64 0, .int .i64 0] 50)).cell? ⟨w.heap.size + 1 + 1, 4, none⟩ = some (.int .i64 0) := (cell_new ((w.alloc (.cells #[.int .i64 x.1, .slice Ax1 (List.length x.2) cx1] 24)).alloc (.cells #[.slice An0 (List.length n) cn0] 47)) _ _ 4 (by first | rfl | simp only [World.size_alloc]))
  have hvb : Below w.heap.size w (((w.alloc (.cells #[.int .i64 x.1, .slice Ax1 (List.length x.2) cx1] 24)).alloc (.cells #[.slice An0 (List.length n) cn0] 47)).alloc (.cells #[.slice none 0 0, .slice none 0 0, .slice none 0 0, .int .i64 0, .int .i64 0] 50)) := (by repeat' (first | (with_reducible exact Below.refl _ _) | (with_reducible assumption) | (with_reducible refine bel_set ?_ (by (try dsimp only); omega) _) | (with_reducible refine bel_alloc ?_ _) | (with_reducible refine bel_drewN ?_ _) | (with_reducible refine bel_drew ?_)))
  have zb0 := Lib.hid (show (((w.alloc (.cells #[.int .i64 x.1, .slice Ax1 (List.length x.2) cx1] 24)).alloc (.cells #[.slice An0 (List.length n) cn0] 47)).alloc (.cells #[.slice none 0 0, .slice none 0 0, .slice none 0 0, .int .i64 0, .int .i64 0] 50)).heap.size = w.heap.size + 1 + 1 + 1 from by simp only [World.size_alloc])
  have zb : w.heap.size + 1 + 1 < (((w.alloc (.cells #[.int .i64 x.1, .slice Ax1 (List.length x.2) cx1] 24)).alloc (.cells #[.slice An0 (List.length n) cn0] 47)).alloc (.cells #[.slice none 0 0, .slice none 0 0, .slice none 0 0, .int .i64 0, .int .i64 0] 50)).heap.size := by simp only [World.size_alloc]; omega
  have hR0 : Blk (((w.alloc (.cells #[.int .i64 x.1, .slice Ax1 (List.length x.2) cx1] 24)).alloc (.cells #[.slice An0 (List.length n) cn0] 47)).alloc (.cells #[.slice none 0 0, .slice none 0 0, .slice none 0 0, .int .i64 0, .int .i64 0] 50)) (w.heap.size + 1 + 1) 50 #[.slice none 0 0, .slice none 0 0, .slice none 0 0, .int .i64 0, .int .i64 0] := by have := Blk.new ((w.alloc (.cells #[.int .i64 x.1, .slice Ax1 (List.length x.2) cx1] 24)).alloc (.cells #[.slice An0 (List.length n) cn0] 47)) 50 #[.slice none 0 0, .slice none 0 0, .slice none 0 0, .int .i64 0, .int .i64 0]; rwa [World.size_alloc, World.size_alloc] at this
  go_enter Try.func33, Try.ntmps33
  go_wp2
  generalize (((w.alloc (.cells #[.int .i64 x.1, .slice Ax1 (List.length x.2) cx1] 24)).alloc (.cells #[.slice An0 (List.length n) cn0] 47)).alloc (.cells #[.slice none 0 0, .slice none 0 0, .slice none 0 0, .int .i64 0, .int .i64 0] 50)) = WX at hR0 kb0_0 kb0_1 kb1_0 kb2_0 kb2_1 kb2_2 kb2_3 kb2_4 hvb zb zb0 ⊢
  have HC : Hid (∀ V, Below WX.heap.size WX V → V.cell? ⟨w.heap.size, 0, none⟩ = some (.int .i64 x.1) ∧ V.cell? ⟨w.heap.size, 1, none⟩ = some (.slice Ax1 (List.length x.2) cx1) ∧ V.cell? ⟨w.heap.size + 1, 0, none⟩ = some (.slice An0 (List.length n) cn0) ∧ V.cell? ⟨w.heap.size + 1 + 1, 0, none⟩ = some (.slice none 0 0) ∧ V.cell? ⟨w.heap.size + 1 + 1, 1, none⟩ = some (.slice none 0 0) ∧ V.cell? ⟨w.heap.size + 1 + 1, 2, none⟩ = some (.slice none 0 0) ∧ V.cell? ⟨w.heap.size + 1 + 1, 3, none⟩ = some (.int .i64 0) ∧ V.cell? ⟨w.heap.size + 1 + 1, 4, none⟩ = some (.int .i64 0)) := fun V hW => ⟨(hW.cell (p := ⟨w.heap.size, 0, none⟩) (by dsimp only; omega)).trans kb0_0, (hW.cell (p := ⟨w.heap.size, 1, none⟩) (by dsimp only; omega)).trans kb0_1, (hW.cell (p := ⟨w.heap.size + 1, 0, none⟩) (by dsimp only; omega)).trans kb1_0, (hW.cell (p := ⟨w.heap.size + 1 + 1, 0, none⟩) (by dsimp only; omega)).trans kb2_0, (hW.cell (p := ⟨w.heap.size + 1 + 1, 1, none⟩) (by dsimp only; omega)).trans kb2_1, (hW.cell (p := ⟨w.heap.size + 1 + 1, 2, none⟩) (by dsimp only; omega)).trans kb2_2, (hW.cell (p := ⟨w.heap.size + 1 + 1, 3, none⟩) (by dsimp only; omega)).trans kb2_3, (hW.cell (p := ⟨w.heap.size + 1 + 1, 4, none⟩) (by dsimp only; omega)).trans kb2_4⟩
  clear kb0_0 kb0_1 kb1_0 kb2_0 kb2_1 kb2_2 kb2_3 kb2_4
  go_loopw [8] (fun i wr => ∃ k : Nat, k ≤ List.length x.2 ∧ i = .int .i64 k ∧ (x.2.take k).any (lookP n now) = false ∧ Below WX.heap.size WX wr) (fun i _ => List.length x.2 - (intOf i).toNat)
  case atStart => exact ⟨0, by omega, rfl, by first | rfl | simp, Below.refl _ _⟩
  case round =>
    obtain ⟨k, hk, rfl, ht, hb⟩ := hrel
    have hw : Below w.heap.size w wr := bel_trans hvb hb
    have HT := Lib.hid ht
    clear ht
    obtain ⟨j0, j1, j2, j3, j4, j5, j6, j7⟩ := HC.out _ (hb)
    have hsw := hb.size
    have zw0 : w.heap.size < wr.heap.size := by omega
    have zw1 : w.heap.size + 1 < wr.heap.size := by omega
    by_cases hlt : k < List.length x.2
    · have HS := Lib.hid (any_take_succ (lookP n now) x.2 hlt)
      obtain ⟨b, o, dse, rfl, hle, hcelle, hrde⟩ := Ty.rd_at (Ty.rd_below hw xg1) hlt
      have hrde' := hrde
      obtain ⟨Ae00, ce00, Ae01, ce01, Ae02, ce02, rfl, eg0, eg1⟩ := rd_CacheEntry hrde
      have e0 : wr.cell? ⟨b, o + k * 6, none⟩ = some (.slice Ae00 (List.length (x.2)[k].1.1) ce00) := by simpa [Ty.sz] using hcelle 0 (by decide)
      have e1 : wr.cell? ⟨b, o + k * 6 + 1, none⟩ = some (.slice Ae01 (List.length (x.2)[k].1.2.1) ce01) := by simpa [Ty.sz] using hcelle 1 (by decide)
      have e2 : wr.cell? ⟨b, o + k * 6 + 2, none⟩ = some (.slice Ae02 (List.length (x.2)[k].1.2.2.1) ce02) := by simpa [Ty.sz] using hcelle 2 (by decide)
      have e3 : wr.cell? ⟨b, o + k * 6 + 3, none⟩ = some (.int .i64 (x.2)[k].1.2.2.2.1) := by simpa [Ty.sz] using hcelle 3 (by decide)
      have e4 : wr.cell? ⟨b, o + k * 6 + 4, none⟩ = some (.int .i64 (x.2)[k].1.2.2.2.2) := by simpa [Ty.sz] using hcelle 4 (by decide)
      have e5 : wr.cell? ⟨b, o + k * 6 + 5, none⟩ = some (.int .i64 (x.2)[k].2) := by simpa [Ty.sz] using hcelle 5 (by decide)
      clear hcelle hle
      have hng : Ty.rd wr (.sl .str) [.slice Ae00 (List.length (x.2)[k].1.1) ce00] (x.2)[k].1.1 := rd_pr_head eg0
      have hlb : b < wr.heap.size := World.block_lt_of_cell? wr _ e0
      have i0 : (0 : Int) ≤ (k : Int) := by omega
      have i1 : (k : Int) < (List.length x.2 : Int) := by omega
      have HP := Lib.hid (show lookP n now (x.2)[k] = (decide ((x.2)[k].1.1 = n) && f_FreshAt (x.2)[k].1 now) from rfl)
      have HH : Hid (∀ W, Below wr.heap.size wr W → Below wr.heap.size wr W ∧ W.cell? ⟨w.heap.size, 0, none⟩ = some (.int .i64 x.1) ∧ W.cell? ⟨w.heap.size, 1, none⟩ = some (.slice (some ⟨b, o, none⟩) (List.length x.2) cx1) ∧ W.cell? ⟨w.heap.size + 1, 0, none⟩ = some (.slice An0 (List.length n) cn0) ∧ W.cell? ⟨b, o + k * 6, none⟩ = some (.slice Ae00 (List.length (x.2)[k].1.1) ce00) ∧ W.cell? ⟨b, o + k * 6 + 1, none⟩ = some (.slice Ae01 (List.length (x.2)[k].1.2.1) ce01) ∧ W.cell? ⟨b, o + k * 6 + 2, none⟩ = some (.slice Ae02 (List.length (x.2)[k].1.2.2.1) ce02) ∧ W.cell? ⟨b, o + k * 6 + 3, none⟩ = some (.int .i64 (x.2)[k].1.2.2.2.1) ∧ W.cell? ⟨b, o + k * 6 + 4, none⟩ = some (.int .i64 (x.2)[k].1.2.2.2.2)) := fun W hW => ⟨hW, (HC.out W (bel_trans hb hW)).1, (HC.out W (bel_trans hb hW)).2.1, (HC.out W (bel_trans hb hW)).2.2.1, (hW.cell (p := ⟨b, o + k * 6, none⟩) hlb).trans e0, (hW.cell (p := ⟨b, o + k * 6 + 1, none⟩) hlb).trans e1, (hW.cell (p := ⟨b, o + k * 6 + 2, none⟩) hlb).trans e2, (hW.cell (p := ⟨b, o + k * 6 + 3, none⟩) hlb).trans e3, (hW.cell (p := ⟨b, o + k * 6 + 4, none⟩) hlb).trans e4⟩
      have hv0 : Below wr.heap.size wr wr := Below.refl _ _
      clear j3 j4 j5 j6 j7
      cases q0 : decide ((x.2)[k].1.1 = n)
      · have HZ := Lib.hid (show lookP n now (x.2)[k] = false from by rw [HP.out, q0]; rfl)
        go_wp2_with fail
        refine wp_region_noPanic ?_
        refine wp_region_held_drew (S := (fun W => Below wr.heap.size wr W ∧ W.cell? ⟨w.heap.size, 0, none⟩ = some (.int .i64 x.1) ∧ W.cell? ⟨w.heap.size, 1, none⟩ = some (.slice (some ⟨b, o, none⟩) (List.length x.2) cx1) ∧ W.cell? ⟨w.heap.size + 1, 0, none⟩ = some (.slice An0 (List.length n) cn0) ∧ W.cell? ⟨b, o + k * 6, none⟩ = some (.slice Ae00 (List.length (x.2)[k].1.1) ce00) ∧ W.cell? ⟨b, o + k * 6 + 1, none⟩ = some (.slice Ae01 (List.length (x.2)[k].1.2.1) ce01) ∧ W.cell? ⟨b, o + k * 6 + 2, none⟩ = some (.slice Ae02 (List.length (x.2)[k].1.2.2.1) ce02) ∧ W.cell? ⟨b, o + k * 6 + 3, none⟩ = some (.int .i64 (x.2)[k].1.2.2.2.1) ∧ W.cell? ⟨b, o + k * 6 + 4, none⟩ = some (.int .i64 (x.2)[k].1.2.2.2.2))) (by kernel_rfl) ?_ (fun hHeld => ?_)
        · exact HH.out _ (by (repeat' (first | (with_reducible exact Below.refl _ _) | (with_reducible assumption) | (with_reducible refine bel_set ?_ (by (try dsimp only); omega) _) | (with_reducible refine bel_alloc ?_ _) | (with_reducible refine bel_drewN ?_ _) | (with_reducible refine bel_drew ?_) | (with_reducible refine bel_trans ?_ (by assumption)))); done)
        refine tk 0 (opN rfl) (by kernel_rfl) (by rfl) (by (intro w hSw; (try dsimp only at hSw); go_simp; first | done | with_reducible rfl)) (by assumption) ?_
        try simp only [Act.put, List.setIfInBounds_toArray, List.set_cons_zero, List.set_cons_succ]
        refine tk 1 (opN rfl) (by kernel_rfl) (by rfl) (by (intro w hSw; (try dsimp only at hSw); go_simp; first | done | with_reducible rfl)) (by assumption) ?_
        try simp only [Act.put, List.setIfInBounds_toArray, List.set_cons_zero, List.set_cons_succ]
        refine tk 2 (opN rfl) (by kernel_rfl) (by rfl) (by (intro w hSw; (try dsimp only at hSw); go_simp; first | done | with_reducible rfl)) (by assumption) ?_
        try simp only [Act.put, List.setIfInBounds_toArray, List.set_cons_zero, List.set_cons_succ]
        refine tk 3 (opN rfl) (by kernel_rfl) (by rfl) (by (intro w hSw; (try dsimp only at hSw); go_simp; first | done | with_reducible rfl)) (by assumption) ?_
        try simp only [Act.put, List.setIfInBounds_toArray, List.set_cons_zero, List.set_cons_succ]
        refine tk 4 (opN rfl) (by kernel_rfl) (by rfl) (by (intro w hSw; (try dsimp only at hSw); go_simp; first | done | with_reducible rfl)) (by assumption) ?_
        try simp only [Act.put, List.setIfInBounds_toArray, List.set_cons_zero, List.set_cons_succ]
        refine tk 5 (opN rfl) (by kernel_rfl) (by rfl) (by (intro w hSw; (try dsimp only at hSw); go_simp; first | done | with_reducible rfl)) (by assumption) ?_
        try simp only [Act.put, List.setIfInBounds_toArray, List.set_cons_zero, List.set_cons_succ]
        refine tk 6 (opN rfl) (by kernel_rfl) (by rfl) (by (intro w hSw; (try dsimp only at hSw); go_simp; first | done | with_reducible rfl)) (by assumption) ?_
        try simp only [Act.put, List.setIfInBounds_toArray, List.set_cons_zero, List.set_cons_succ]
        refine tk 7 (opN rfl) (by kernel_rfl) (by rfl) (by (intro w hSw; (try dsimp only at hSw); go_simp; first | done | with_reducible rfl)) (by assumption) ?_
        try simp only [Act.put, List.setIfInBounds_toArray, List.set_cons_zero, List.set_cons_succ]
        refine wpAnyH_ready (rs := [8]) (by kernel_rfl) (by simp) ?_
        refine AllReadyH.cons (opN rfl) (fun K hK => ?_) AllReadyH.nil
        go_simp
        go_at_call 83
        refine (C_spec_EqualNames _ _ _ _ _ (Ty.rd_below (by (repeat' (first | (with_reducible exact Below.refl _ _) | (with_reducible assumption) | (with_reducible refine bel_set ?_ (by (try dsimp only); omega) _) | (with_reducible refine bel_alloc ?_ _) | (with_reducible refine bel_drewN ?_ _) | (with_reducible refine bel_drew ?_) | (with_reducible refine bel_trans ?_ (by assumption)))); done) hng) (Ty.rd_below (bel_trans hw (by (repeat' (first | (with_reducible exact Below.refl _ _) | (with_reducible assumption) | (with_reducible refine bel_set ?_ (by (try dsimp only); omega) _) | (with_reducible refine bel_alloc ?_ _) | (with_reducible refine bel_drewN ?_ _) | (with_reducible refine bel_drew ?_) | (with_reducible refine bel_trans ?_ (by assumption)))); done)) h2)).mono ?_
        rw [q0]
        rintro e w2 ⟨rfl, hb2⟩
        refine hK.out _ _ ?_ (fun hHeld => ?_)
        · (try dsimp only)
          exact HH.out _ (by (repeat' (first | (with_reducible exact Below.refl _ _) | (with_reducible assumption) | (with_reducible refine bel_set ?_ (by (try dsimp only); omega) _) | (with_reducible refine bel_alloc ?_ _) | (with_reducible refine bel_drewN ?_ _) | (with_reducible refine bel_drew ?_) | (with_reducible refine bel_trans ?_ (by assumption)))); done)
        clear hK K
        try simp only [Act.put, List.setIfInBounds_toArray, List.set_cons_zero, List.set_cons_succ]
        refine tk 9 (opN rfl) (by kernel_rfl) (by rfl) (by (intro w hSw; (try dsimp only at hSw); go_simp; first | done | with_reducible rfl)) (by assumption) ?_
        try simp only [Act.put, List.setIfInBounds_toArray, List.set_cons_zero, List.set_cons_succ]
        refine sk 10 (opN rfl) (by kernel_rfl) (by rfl) (by assumption) ?_
        try simp only [Act.put, List.setIfInBounds_toArray, List.set_cons_zero, List.set_cons_succ]
        refine sk 11 (opN rfl) (by kernel_rfl) (by rfl) (by assumption) ?_
        try simp only [Act.put, List.setIfInBounds_toArray, List.set_cons_zero, List.set_cons_succ]
        refine sk 12 (opN rfl) (by kernel_rfl) (by rfl) (by assumption) ?_
        try simp only [Act.put, List.setIfInBounds_toArray, List.set_cons_zero, List.set_cons_succ]
        refine sk 13 (opN rfl) (by kernel_rfl) (by rfl) (by assumption) ?_
        try simp only [Act.put, List.setIfInBounds_toArray, List.set_cons_zero, List.set_cons_succ]
        refine sk 14 (opN rfl) (by kernel_rfl) (by rfl) (by assumption) ?_
        try simp only [Act.put, List.setIfInBounds_toArray, List.set_cons_zero, List.set_cons_succ]
        refine sk 15 (opN rfl) (by kernel_rfl) (by rfl) (by assumption) ?_
        try simp only [Act.put, List.setIfInBounds_toArray, List.set_cons_zero, List.set_cons_succ]
        refine sk 16 (opN rfl) (by kernel_rfl) (by rfl) (by assumption) ?_
        try simp only [Act.put, List.setIfInBounds_toArray, List.set_cons_zero, List.set_cons_succ]
        refine sk 17 (opN rfl) (by kernel_rfl) (by rfl) (by assumption) ?_
        try simp only [Act.put, List.setIfInBounds_toArray, List.set_cons_zero, List.set_cons_succ]
        refine tk 18 (opN rfl) (by kernel_rfl) (by rfl) (by (intro w hSw; (try dsimp only at hSw); go_simp; first | done | with_reducible rfl)) (by assumption) ?_
        try simp only [Act.put, List.setIfInBounds_toArray, List.set_cons_zero, List.set_cons_succ]
        refine wpAnyH_done (by kernel_rfl) ?_ _
        refine NoPanic.normal ?_
        go_wp2
        go_roundw
        case rel => exact ⟨k + 1, by omega, by go_num, by rw [HS.out, HT.out, HZ.out]; rfl, bel_trans hb (by (repeat' (first | (with_reducible exact Below.refl _ _) | (with_reducible assumption) | (with_reducible refine bel_set ?_ (by (try dsimp only); omega) _) | (with_reducible refine bel_alloc ?_ _) | (with_reducible refine bel_drewN ?_ _) | (with_reducible refine bel_drew ?_) | (with_reducible refine bel_trans ?_ (by assumption)))); done)⟩
        case measure => simp [intOf]; omega
      cases q1 : f_FreshAt (x.2)[k].1 now
      · have HZ := Lib.hid (show lookP n now (x.2)[k] = false from by rw [HP.out, q1]; simp)
        go_wp2_with fail
        refine wp_region_noPanic ?_
        refine wp_region_held_drew (S := (fun W => Below wr.heap.size wr W ∧ W.cell? ⟨w.heap.size, 0, none⟩ = some (.int .i64 x.1) ∧ W.cell? ⟨w.heap.size, 1, none⟩ = some (.slice (some ⟨b, o, none⟩) (List.length x.2) cx1) ∧ W.cell? ⟨w.heap.size + 1, 0, none⟩ = some (.slice An0 (List.length n) cn0) ∧ W.cell? ⟨b, o + k * 6, none⟩ = some (.slice Ae00 (List.length (x.2)[k].1.1) ce00) ∧ W.cell? ⟨b, o + k * 6 + 1, none⟩ = some (.slice Ae01 (List.length (x.2)[k].1.2.1) ce01) ∧ W.cell? ⟨b, o + k * 6 + 2, none⟩ = some (.slice Ae02 (List.length (x.2)[k].1.2.2.1) ce02) ∧ W.cell? ⟨b, o + k * 6 + 3, none⟩ = some (.int .i64 (x.2)[k].1.2.2.2.1) ∧ W.cell? ⟨b, o + k * 6 + 4, none⟩ = some (.int .i64 (x.2)[k].1.2.2.2.2))) (by kernel_rfl) ?_ (fun hHeld => ?_)
        · exact HH.out _ (by (repeat' (first | (with_reducible exact Below.refl _ _) | (with_reducible assumption) | (with_reducible refine bel_set ?_ (by (try dsimp only); omega) _) | (with_reducible refine bel_alloc ?_ _) | (with_reducible refine bel_drewN ?_ _) | (with_reducible refine bel_drew ?_) | (with_reducible refine bel_trans ?_ (by assumption)))); done)
        refine tk 0 (opN rfl) (by kernel_rfl) (by rfl) (by (intro w hSw; (try dsimp only at hSw); go_simp; first | done | with_reducible rfl)) (by assumption) ?_
        try simp only [Act.put, List.setIfInBounds_toArray, List.set_cons_zero, List.set_cons_succ]
        refine tk 1 (opN rfl) (by kernel_rfl) (by rfl) (by (intro w hSw; (try dsimp only at hSw); go_simp; first | done | with_reducible rfl)) (by assumption) ?_
        try simp only [Act.put, List.setIfInBounds_toArray, List.set_cons_zero, List.set_cons_succ]
        refine tk 2 (opN rfl) (by kernel_rfl) (by rfl) (by (intro w hSw; (try dsimp only at hSw); go_simp; first | done | with_reducible rfl)) (by assumption) ?_
        try simp only [Act.put, List.setIfInBounds_toArray, List.set_cons_zero, List.set_cons_succ]
        refine tk 3 (opN rfl) (by kernel_rfl) (by rfl) (by (intro w hSw; (try dsimp only at hSw); go_simp; first | done | with_reducible rfl)) (by assumption) ?_
        try simp only [Act.put, List.setIfInBounds_toArray, List.set_cons_zero, List.set_cons_succ]
        refine tk 4 (opN rfl) (by kernel_rfl) (by rfl) (by (intro w hSw; (try dsimp only at hSw); go_simp; first | done | with_reducible rfl)) (by assumption) ?_
        try simp only [Act.put, List.setIfInBounds_toArray, List.set_cons_zero, List.set_cons_succ]
        refine tk 5 (opN rfl) (by kernel_rfl) (by rfl) (by (intro w hSw; (try dsimp only at hSw); go_simp; first | done | with_reducible rfl)) (by assumption) ?_
        try simp only [Act.put, List.setIfInBounds_toArray, List.set_cons_zero, List.set_cons_succ]
        refine tk 6 (opN rfl) (by kernel_rfl) (by rfl) (by (intro w hSw; (try dsimp only at hSw); go_simp; first | done | with_reducible rfl)) (by assumption) ?_
        try simp only [Act.put, List.setIfInBounds_toArray, List.set_cons_zero, List.set_cons_succ]
        refine tk 7 (opN rfl) (by kernel_rfl) (by rfl) (by (intro w hSw; (try dsimp only at hSw); go_simp; first | done | with_reducible rfl)) (by assumption) ?_
        try simp only [Act.put, List.setIfInBounds_toArray, List.set_cons_zero, List.set_cons_succ]
        refine wpAnyH_ready (rs := [8]) (by kernel_rfl) (by simp) ?_
        refine AllReadyH.cons (opN rfl) (fun K hK => ?_) AllReadyH.nil
        go_simp
        go_at_call 83
        refine (C_spec_EqualNames _ _ _ _ _ (Ty.rd_below (by (repeat' (first | (with_reducible exact Below.refl _ _) | (with_reducible assumption) | (with_reducible refine bel_set ?_ (by (try dsimp only); omega) _) | (with_reducible refine bel_alloc ?_ _) | (with_reducible refine bel_drewN ?_ _) | (with_reducible refine bel_drew ?_) | (with_reducible refine bel_trans ?_ (by assumption)))); done) hng) (Ty.rd_below (bel_trans hw (by (repeat' (first | (with_reducible exact Below.refl _ _) | (with_reducible assumption) | (with_reducible refine bel_set ?_ (by (try dsimp only); omega) _) | (with_reducible refine bel_alloc ?_ _) | (with_reducible refine bel_drewN ?_ _) | (with_reducible refine bel_drew ?_) | (with_reducible refine bel_trans ?_ (by assumption)))); done)) h2)).mono ?_
        rw [q0]
        rintro e w2 ⟨rfl, hb2⟩
        refine hK.out _ _ ?_ (fun hHeld => ?_)
        · (try dsimp only)
          exact HH.out _ (by (repeat' (first | (with_reducible exact Below.refl _ _) | (with_reducible assumption) | (with_reducible refine bel_set ?_ (by (try dsimp only); omega) _) | (with_reducible refine bel_alloc ?_ _) | (with_reducible refine bel_drewN ?_ _) | (with_reducible refine bel_drew ?_) | (with_reducible refine bel_trans ?_ (by assumption)))); done)
        clear hK K
        try simp only [Act.put, List.setIfInBounds_toArray, List.set_cons_zero, List.set_cons_succ]
        refine tk 9 (opN rfl) (by kernel_rfl) (by rfl) (by (intro w hSw; (try dsimp only at hSw); go_simp; first | done | with_reducible rfl)) (by assumption) ?_
        try simp only [Act.put, List.setIfInBounds_toArray, List.set_cons_zero, List.set_cons_succ]
        refine tk 10 (opN rfl) (by kernel_rfl) (by rfl) (by (intro w hSw; (try dsimp only at hSw); go_simp; first | done | with_reducible rfl)) (by assumption) ?_
        try simp only [Act.put, List.setIfInBounds_toArray, List.set_cons_zero, List.set_cons_succ]
        refine tk 11 (opN rfl) (by kernel_rfl) (by rfl) (by (intro w hSw; (try dsimp only at hSw); go_simp; first | done | with_reducible rfl)) (by assumption) ?_
        try simp only [Act.put, List.setIfInBounds_toArray, List.set_cons_zero, List.set_cons_succ]
        refine tk 12 (opN rfl) (by kernel_rfl) (by rfl) (by (intro w hSw; (try dsimp only at hSw); go_simp; first | done | with_reducible rfl)) (by assumption) ?_
        try simp only [Act.put, List.setIfInBounds_toArray, List.set_cons_zero, List.set_cons_succ]
        refine tk 13 (opN rfl) (by kernel_rfl) (by rfl) (by (intro w hSw; (try dsimp only at hSw); go_simp; first | done | with_reducible rfl)) (by assumption) ?_
        try simp only [Act.put, List.setIfInBounds_toArray, List.set_cons_zero, List.set_cons_succ]
        refine tk 14 (opN rfl) (by kernel_rfl) (by rfl) (by (intro w hSw; (try dsimp only at hSw); go_simp; first | done | with_reducible rfl)) (by assumption) ?_
        try simp only [Act.put, List.setIfInBounds_toArray, List.set_cons_zero, List.set_cons_succ]
        refine tk 15 (opN rfl) (by kernel_rfl) (by rfl) (by (intro w hSw; (try dsimp only at hSw); go_simp; first | done | with_reducible rfl)) (by assumption) ?_
        try simp only [Act.put, List.setIfInBounds_toArray, List.set_cons_zero, List.set_cons_succ]
        refine tk 16 (opN rfl) (by kernel_rfl) (by rfl) (by (intro w hSw; (try dsimp only at hSw); go_simp; first | done | with_reducible rfl)) (by assumption) ?_
        try simp only [Act.put, List.setIfInBounds_toArray, List.set_cons_zero, List.set_cons_succ]
        refine wpAnyH_ready (rs := [17]) (by kernel_rfl) (by simp) ?_
        refine AllReadyH.cons (opN rfl) (fun K hK => ?_) AllReadyH.nil
        go_simp
        go_at_call 77
        refine (C_spec_FreshAt _ _ (x.2)[k].1 now (Ty.rd_below (by (repeat' (first | (with_reducible exact Below.refl _ _) | (with_reducible assumption) | (with_reducible refine bel_set ?_ (by (try dsimp only); omega) _) | (with_reducible refine bel_alloc ?_ _) | (with_reducible refine bel_drewN ?_ _) | (with_reducible refine bel_drew ?_) | (with_reducible refine bel_trans ?_ (by assumption)))); done) eg0) (entry_bulk' (Ty.bulk_at s0e hlt)) i2).mono ?_
        rw [q1]
        rintro e w3 ⟨rfl, hb3⟩
        refine hK.out _ _ ?_ (fun hHeld => ?_)
        · (try dsimp only)
          exact HH.out _ (by (repeat' (first | (with_reducible exact Below.refl _ _) | (with_reducible assumption) | (with_reducible refine bel_set ?_ (by (try dsimp only); omega) _) | (with_reducible refine bel_alloc ?_ _) | (with_reducible refine bel_drewN ?_ _) | (with_reducible refine bel_drew ?_) | (with_reducible refine bel_trans ?_ (by assumption)))); done)
        clear hK K
        try simp only [Act.put, List.setIfInBounds_toArray, List.set_cons_zero, List.set_cons_succ]
        refine tk 18 (opN rfl) (by kernel_rfl) (by rfl) (by (intro w hSw; (try dsimp only at hSw); go_simp; first | done | with_reducible rfl)) (by assumption) ?_
        try simp only [Act.put, List.setIfInBounds_toArray, List.set_cons_zero, List.set_cons_succ]
        refine wpAnyH_done (by kernel_rfl) ?_ _
        refine NoPanic.normal ?_
        go_wp2
        go_roundw
        case rel => exact ⟨k + 1, by omega, by go_num, by rw [HS.out, HT.out, HZ.out]; rfl, bel_trans hb (by (repeat' (first | (with_reducible exact Below.refl _ _) | (with_reducible assumption) | (with_reducible refine bel_set ?_ (by (try dsimp only); omega) _) | (with_reducible refine bel_alloc ?_ _) | (with_reducible refine bel_drewN ?_ _) | (with_reducible refine bel_drew ?_) | (with_reducible refine bel_trans ?_ (by assumption)))); done)⟩
        case measure => simp [intOf]; omega
      have HZ := Lib.hid (show lookP n now (x.2)[k] = true from by rw [HP.out, q0, q1]; rfl)
      have HF1 : Hid (F1 = true) := by have := HQ1.out; rwa [List.any_eq_true.2 ⟨_, List.getElem_mem hlt, HZ.out⟩] at this
      have HF0 : Hid (F0 = (x.2)[k].1) := by have := HQ0.out; rwa [find_hit _ _ hlt HT.out HZ.out] at this
      go_wp2_with fail
      refine wp_region_noPanic ?_
      refine wp_region_held_drew (S := (fun W => Below wr.heap.size wr W ∧ W.cell? ⟨w.heap.size, 0, none⟩ = some (.int .i64 x.1) ∧ W.cell? ⟨w.heap.size, 1, none⟩ = some (.slice (some ⟨b, o, none⟩) (List.length x.2) cx1) ∧ W.cell? ⟨w.heap.size + 1, 0, none⟩ = some (.slice An0 (List.length n) cn0) ∧ W.cell? ⟨b, o + k * 6, none⟩ = some (.slice Ae00 (List.length (x.2)[k].1.1) ce00) ∧ W.cell? ⟨b, o + k * 6 + 1, none⟩ = some (.slice Ae01 (List.length (x.2)[k].1.2.1) ce01) ∧ W.cell? ⟨b, o + k * 6 + 2, none⟩ = some (.slice Ae02 (List.length (x.2)[k].1.2.2.1) ce02) ∧ W.cell? ⟨b, o + k * 6 + 3, none⟩ = some (.int .i64 (x.2)[k].1.2.2.2.1) ∧ W.cell? ⟨b, o + k * 6 + 4, none⟩ = some (.int .i64 (x.2)[k].1.2.2.2.2))) (by kernel_rfl) ?_ (fun hHeld => ?_)
      · exact HH.out _ (by (repeat' (first | (with_reducible exact Below.refl _ _) | (with_reducible assumption) | (with_reducible refine bel_set ?_ (by (try dsimp only); omega) _) | (with_reducible refine bel_alloc ?_ _) | (with_reducible refine bel_drewN ?_ _) | (with_reducible refine bel_drew ?_) | (with_reducible refine bel_trans ?_ (by assumption)))); done)
      refine tk 0 (opN rfl) (by kernel_rfl) (by rfl) (by (intro w hSw; (try dsimp only at hSw); go_simp; first | done | with_reducible rfl)) (by assumption) ?_
      try simp only [Act.put, List.setIfInBounds_toArray, List.set_cons_zero, List.set_cons_succ]
      refine tk 1 (opN rfl) (by kernel_rfl) (by rfl) (by (intro w hSw; (try dsimp only at hSw); go_simp; first | done | with_reducible rfl)) (by assumption) ?_
      try simp only [Act.put, List.setIfInBounds_toArray, List.set_cons_zero, List.set_cons_succ]
      refine tk 2 (opN rfl) (by kernel_rfl) (by rfl) (by (intro w hSw; (try dsimp only at hSw); go_simp; first | done | with_reducible rfl)) (by assumption) ?_
      try simp only [Act.put, List.setIfInBounds_toArray, List.set_cons_zero, List.set_cons_succ]
      refine tk 3 (opN rfl) (by kernel_rfl) (by rfl) (by (intro w hSw; (try dsimp only at hSw); go_simp; first | done | with_reducible rfl)) (by assumption) ?_
      try simp only [Act.put, List.setIfInBounds_toArray, List.set_cons_zero, List.set_cons_succ]
      refine tk 4 (opN rfl) (by kernel_rfl) (by rfl) (by (intro w hSw; (try dsimp only at hSw); go_simp; first | done | with_reducible rfl)) (by assumption) ?_
      try simp only [Act.put, List.setIfInBounds_toArray, List.set_cons_zero, List.set_cons_succ]
      refine tk 5 (opN rfl) (by kernel_rfl) (by rfl) (by (intro w hSw; (try dsimp only at hSw); go_simp; first | done | with_reducible rfl)) (by assumption) ?_
      try simp only [Act.put, List.setIfInBounds_toArray, List.set_cons_zero, List.set_cons_succ]
      refine tk 6 (opN rfl) (by kernel_rfl) (by rfl) (by (intro w hSw; (try dsimp only at hSw); go_simp; first | done | with_reducible rfl)) (by assumption) ?_
      try simp only [Act.put, List.setIfInBounds_toArray, List.set_cons_zero, List.set_cons_succ]
      refine tk 7 (opN rfl) (by kernel_rfl) (by rfl) (by (intro w hSw; (try dsimp only at hSw); go_simp; first | done | with_reducible rfl)) (by assumption) ?_
      try simp only [Act.put, List.setIfInBounds_toArray, List.set_cons_zero, List.set_cons_succ]
      refine wpAnyH_ready (rs := [8]) (by kernel_rfl) (by simp) ?_
      refine AllReadyH.cons (opN rfl) (fun K hK => ?_) AllReadyH.nil
      go_simp
      go_at_call 83
      refine (C_spec_EqualNames _ _ _ _ _ (Ty.rd_below (by (repeat' (first | (with_reducible exact Below.refl _ _) | (with_reducible assumption) | (with_reducible refine bel_set ?_ (by (try dsimp only); omega) _) | (with_reducible refine bel_alloc ?_ _) | (with_reducible refine bel_drewN ?_ _) | (with_reducible refine bel_drew ?_) | (with_reducible refine bel_trans ?_ (by assumption)))); done) hng) (Ty.rd_below (bel_trans hw (by (repeat' (first | (with_reducible exact Below.refl _ _) | (with_reducible assumption) | (with_reducible refine bel_set ?_ (by (try dsimp only); omega) _) | (with_reducible refine bel_alloc ?_ _) | (with_reducible refine bel_drewN ?_ _) | (with_reducible refine bel_drew ?_) | (with_reducible refine bel_trans ?_ (by assumption)))); done)) h2)).mono ?_
      rw [q0]
      rintro e w2 ⟨rfl, hb2⟩
      refine hK.out _ _ ?_ (fun hHeld => ?_)
      · (try dsimp only)
        exact HH.out _ (by (repeat' (first | (with_reducible exact Below.refl _ _) | (with_reducible assumption) | (with_reducible refine bel_set ?_ (by (try dsimp only); omega) _) | (with_reducible refine bel_alloc ?_ _) | (with_reducible refine bel_drewN ?_ _) | (with_reducible refine bel_drew ?_) | (with_reducible refine bel_trans ?_ (by assumption)))); done)
      clear hK K
      try simp only [Act.put, List.setIfInBounds_toArray, List.set_cons_zero, List.set_cons_succ]
      refine tk 9 (opN rfl) (by kernel_rfl) (by rfl) (by (intro w hSw; (try dsimp only at hSw); go_simp; first | done | with_reducible rfl)) (by assumption) ?_
      try simp only [Act.put, List.setIfInBounds_toArray, List.set_cons_zero, List.set_cons_succ]
      refine tk 10 (opN rfl) (by kernel_rfl) (by rfl) (by (intro w hSw; (try dsimp only at hSw); go_simp; first | done | with_reducible rfl)) (by assumption) ?_
      try simp only [Act.put, List.setIfInBounds_toArray, List.set_cons_zero, List.set_cons_succ]
      refine tk 11 (opN rfl) (by kernel_rfl) (by rfl) (by (intro w hSw; (try dsimp only at hSw); go_simp; first | done | with_reducible rfl)) (by assumption) ?_
      try simp only [Act.put, List.setIfInBounds_toArray, List.set_cons_zero, List.set_cons_succ]
      refine tk 12 (opN rfl) (by kernel_rfl) (by rfl) (by (intro w hSw; (try dsimp only at hSw); go_simp; first | done | with_reducible rfl)) (by assumption) ?_
      try simp only [Act.put, List.setIfInBounds_toArray, List.set_cons_zero, List.set_cons_succ]
      refine tk 13 (opN rfl) (by kernel_rfl) (by rfl) (by (intro w hSw; (try dsimp only at hSw); go_simp; first | done | with_reducible rfl)) (by assumption) ?_
      try simp only [Act.put, List.setIfInBounds_toArray, List.set_cons_zero, List.set_cons_succ]
      refine tk 14 (opN rfl) (by kernel_rfl) (by rfl) (by (intro w hSw; (try dsimp only at hSw); go_simp; first | done | with_reducible rfl)) (by assumption) ?_
      try simp only [Act.put, List.setIfInBounds_toArray, List.set_cons_zero, List.set_cons_succ]
      refine tk 15 (opN rfl) (by kernel_rfl) (by rfl) (by (intro w hSw; (try dsimp only at hSw); go_simp; first | done | with_reducible rfl)) (by assumption) ?_
      try simp only [Act.put, List.setIfInBounds_toArray, List.set_cons_zero, List.set_cons_succ]
      refine tk 16 (opN rfl) (by kernel_rfl) (by rfl) (by (intro w hSw; (try dsimp only at hSw); go_simp; first | done | with_reducible rfl)) (by assumption) ?_
      try simp only [Act.put, List.setIfInBounds_toArray, List.set_cons_zero, List.set_cons_succ]
      refine wpAnyH_ready (rs := [17]) (by kernel_rfl) (by simp) ?_
      refine AllReadyH.cons (opN rfl) (fun K hK => ?_) AllReadyH.nil
      go_simp
      go_at_call 77
      refine (C_spec_FreshAt _ _ (x.2)[k].1 now (Ty.rd_below (by (repeat' (first | (with_reducible exact Below.refl _ _) | (with_reducible assumption) | (with_reducible refine bel_set ?_ (by (try dsimp only); omega) _) | (with_reducible refine bel_alloc ?_ _) | (with_reducible refine bel_drewN ?_ _) | (with_reducible refine bel_drew ?_) | (with_reducible refine bel_trans ?_ (by assumption)))); done) eg0) (entry_bulk' (Ty.bulk_at s0e hlt)) i2).mono ?_
      rw [q1]
      rintro e w3 ⟨rfl, hb3⟩
      refine hK.out _ _ ?_ (fun hHeld => ?_)
      · (try dsimp only)
        exact HH.out _ (by (repeat' (first | (with_reducible exact Below.refl _ _) | (with_reducible assumption) | (with_reducible refine bel_set ?_ (by (try dsimp only); omega) _) | (with_reducible refine bel_alloc ?_ _) | (with_reducible refine bel_drewN ?_ _) | (with_reducible refine bel_drew ?_) | (with_reducible refine bel_trans ?_ (by assumption)))); done)
      clear hK K
      try simp only [Act.put, List.setIfInBounds_toArray, List.set_cons_zero, List.set_cons_succ]
      refine tk 18 (opN rfl) (by kernel_rfl) (by rfl) (by (intro w hSw; (try dsimp only at hSw); go_simp; first | done | with_reducible rfl)) (by assumption) ?_
      try simp only [Act.put, List.setIfInBounds_toArray, List.set_cons_zero, List.set_cons_succ]
      refine wpAnyH_done (by kernel_rfl) ?_ _
      refine NoPanic.normal ?_
      have hv3 : Below wr.heap.size wr w3 := (by (repeat' (first | (with_reducible exact Below.refl _ _) | (with_reducible assumption) | (with_reducible refine bel_set ?_ (by (try dsimp only); omega) _) | (with_reducible refine bel_alloc ?_ _) | (with_reducible refine bel_drewN ?_ _) | (with_reducible refine bel_drew ?_) | (with_reducible refine bel_trans ?_ (by assumption)))); done)
      obtain ⟨y0, y1, y2, y3, y4, y5, y6, y7, y8⟩ := HH.out _ hv3
      have zq3 := hv3.size
      have zq0 : w.heap.size < w3.heap.size := by omega
      have zq1 : b < w3.heap.size := by omega
      go_wp2_with fail
      refine (C_spec_l8Copy _ _ (x.2)[k].1 (Ty.rd_below hv3 eg0) (Nat.le_trans (entry_bulk' (Ty.bulk_at s0e hlt)) (by decide))).mono ?_
      rintro e w9 ⟨cs9, fp9, rfl, how9, hfr9, hb9⟩
      obtain ⟨Aq0, cq0, Aq1, cq1, Aq2, cq2, rfl⟩ := ow_Data how9
      have hz9 := hb9.size
      have hx9 : Below WX.heap.size WX w9 := bel_trans (bel_trans hb hv3) hb9
      have hR9 := hR0.below hx9 hR0.lt
      have hw9 : Below w.heap.size w w9 := bel_trans hvb hx9
      have kR_9_0 : w9.cell? ⟨w.heap.size + 1 + 1, 0, none⟩ = some (.slice none 0 0) := hR9.cell 0
      have fR_9_0 : w9.frozen? ⟨w.heap.size + 1 + 1, 0, none⟩ = false := hR9.frozen 0
      have kR_9_1 : w9.cell? ⟨w.heap.size + 1 + 1, 1, none⟩ = some (.slice none 0 0) := hR9.cell 1
      have fR_9_1 : w9.frozen? ⟨w.heap.size + 1 + 1, 1, none⟩ = false := hR9.frozen 1
      have kR_9_2 : w9.cell? ⟨w.heap.size + 1 + 1, 2, none⟩ = some (.slice none 0 0) := hR9.cell 2
      have fR_9_2 : w9.frozen? ⟨w.heap.size + 1 + 1, 2, none⟩ = false := hR9.frozen 2
      have kR_9_3 : w9.cell? ⟨w.heap.size + 1 + 1, 3, none⟩ = some (.int .i64 0) := hR9.cell 3
      have fR_9_3 : w9.frozen? ⟨w.heap.size + 1 + 1, 3, none⟩ = false := hR9.frozen 3
      have kR_9_4 : w9.cell? ⟨w.heap.size + 1 + 1, 4, none⟩ = some (.int .i64 0) := hR9.cell 4
      have fR_9_4 : w9.frozen? ⟨w.heap.size + 1 + 1, 4, none⟩ = false := hR9.frozen 4
      have zR_9 : w.heap.size + 1 + 1 < w9.heap.size := hR9.lt
      have hzs : WX.heap.size ≤ w3.heap.size := (bel_trans hb hv3).size
      go_wp2
      refine bodyPost_ret (v := .tuple #[.agg #[.slice Aq0 (List.length (x.2)[k].1.1) cq0, .slice Aq1 (List.length (x.2)[k].1.2.1) cq1, .slice Aq2 (List.length (x.2)[k].1.2.2.1) cq2, .int .i64 (x.2)[k].1.2.2.2.1, .int .i64 (x.2)[k].1.2.2.2.2], .bool true]) (by simp [results, Try.results33, go_sem, kR_9_0, fR_9_0, kR_9_1, fR_9_1, kR_9_2, fR_9_2, kR_9_3, fR_9_3, kR_9_4, fR_9_4, zR_9]) rfl ?_
      rw [HF1.out, HF0.out]
      exact ⟨_, fp9, rfl, Ty.ow_keep (by intro b hb'; have hb'' := (hfr9).2 b hb'; (try simp only [World.size_alloc, World.size_setCell, size_drewN, World.size_drew] at hb''); repeat (first | (with_reducible rfl) | (rw [Below.heap_setCell _ _ _ _ (by (try dsimp only); omega)]) | (rw [Below.heap_alloc _ _ _ (by (try simp only [World.size_alloc, World.size_setCell]); omega)]))) how9, hfr9.mono (by omega) (by (try simp only [World.size_setCell]); omega), (by repeat' (first | (with_reducible exact Below.refl _ _) | (with_reducible assumption) | (with_reducible refine bel_set ?_ (by (try dsimp only); omega) _) | (with_reducible refine bel_alloc ?_ _) | (with_reducible refine bel_drewN ?_ _) | (with_reducible refine bel_drew ?_)))⟩
    · have HE : Hid (x.2.any (lookP n now) = false) := by have := HT.out; rwa [List.take_of_length_le (by omega)] at this
      have HF1 : Hid (F1 = false) := by have := HQ1.out; rwa [HE.out] at this
      have HF0 : Hid (F0 = noData) := by have := HQ0.out; rwa [find_miss _ _ HE.out] at this
      have hR8 := hR0.below hb hR0.lt
      have kR_8_0 : wr.cell? ⟨w.heap.size + 1 + 1, 0, none⟩ = some (.slice none 0 0) := hR8.cell 0
      have fR_8_0 : wr.frozen? ⟨w.heap.size + 1 + 1, 0, none⟩ = false := hR8.frozen 0
      have kR_8_1 : wr.cell? ⟨w.heap.size + 1 + 1, 1, none⟩ = some (.slice none 0 0) := hR8.cell 1
      have fR_8_1 : wr.frozen? ⟨w.heap.size + 1 + 1, 1, none⟩ = false := hR8.frozen 1
      have kR_8_2 : wr.cell? ⟨w.heap.size + 1 + 1, 2, none⟩ = some (.slice none 0 0) := hR8.cell 2
      have fR_8_2 : wr.frozen? ⟨w.heap.size + 1 + 1, 2, none⟩ = false := hR8.frozen 2
      have kR_8_3 : wr.cell? ⟨w.heap.size + 1 + 1, 3, none⟩ = some (.int .i64 0) := hR8.cell 3
      have fR_8_3 : wr.frozen? ⟨w.heap.size + 1 + 1, 3, none⟩ = false := hR8.frozen 3
      have kR_8_4 : wr.cell? ⟨w.heap.size + 1 + 1, 4, none⟩ = some (.int .i64 0) := hR8.cell 4
      have fR_8_4 : wr.frozen? ⟨w.heap.size + 1 + 1, 4, none⟩ = false := hR8.frozen 4
      have zR_8 : w.heap.size + 1 + 1 < wr.heap.size := hR8.lt
      go_wp2
      refine bodyPost_ret (v := .tuple #[.agg #[.slice none 0 0, .slice none 0 0, .slice none 0 0, .int .i64 0, .int .i64 0], .bool false]) (by simp [results, Try.results33, go_sem, kR_8_0, fR_8_0, kR_8_1, fR_8_1, kR_8_2, fR_8_2, kR_8_3, fR_8_3, kR_8_4, fR_8_4, zR_8]) rfl ?_
      rw [HF1.out, HF0.out]
      exact ⟨_, [], rfl, ow_zeroData _, FrI.nil _ _, (by repeat' (first | (with_reducible exact Below.refl _ _) | (with_reducible assumption) | (with_reducible refine bel_set ?_ (by (try dsimp only); omega) _) | (with_reducible refine bel_alloc ?_ _) | (with_reducible refine bel_drewN ?_ _) | (with_reducible refine bel_drew ?_)))⟩
end Go.Proofs.Ytemicfeiejfdkaa
