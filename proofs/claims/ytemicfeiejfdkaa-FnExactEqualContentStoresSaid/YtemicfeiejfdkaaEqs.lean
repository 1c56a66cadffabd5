/- Content stores are equal. Printed by gen29.py. -/
import Derived.Test.YtemicfeiejfdkaaDat
import Derived.Test.YtemicfeiejfdkaaIxf
import Derived.Test.YtemicfeiejfdkaaStp
import Derived.Test.YtemicfeiejfdkaaNb
import Derived.Deep.QuietTactic
import Derived.BigQuiet
namespace Go.Proofs.Ytemicfeiejfdkaa
open Go.RowKit
set_option linter.unusedVariables false
set_option linter.unusedSimpArgs false

instance decD : DecidableEq tData.D := inferInstanceAs (DecidableEq (List (List UInt8) × List UInt8 × List (List UInt8) × Int × Int))
instance decE : DecidableEq tCacheEntry.D := inferInstanceAs (DecidableEq (tData.D × Int))
instance decES : DecidableEq (List tCacheEntry.D) := inferInstanceAs (DecidableEq (List tCacheEntry.D))
instance decC : DecidableEq tContentStore.D := inferInstanceAs (DecidableEq (Int × List tCacheEntry.D))
def f_EqualContentStores (x y : Ty.D tContentStore) : Bool := decide (x = y)
theorem take_eq_succ {α : Type} {x y : List α} {k : Nat} (h1 : k < x.length) (h2 : k < y.length) (ht : x.take k = y.take k) (he : x[k] = y[k]) : x.take (k + 1) = y.take (k + 1) := by
  rw [List.take_succ_eq_append_getElem h1, List.take_succ_eq_append_getElem h2, ht, he]
theorem take_eq_all {α : Type} {x y : List α} {k : Nat} (h1 : x.length ≤ k) (h2 : y.length ≤ k) (ht : x.take k = y.take k) : x = y := by
  rwa [List.take_of_length_le h1, List.take_of_length_le h2] at ht
theorem data_eq (x y : tData.D) : f_EqualData x y = decide (x = y) := by
  unfold f_EqualData
  rw [Bool.eq_iff_iff]
  simp only [Bool.and_eq_true, decide_eq_true_eq]
  exact ⟨fun h => Prod.ext h.1 (Prod.ext h.2.1 (Prod.ext h.2.2.1 (Prod.ext h.2.2.2.1 h.2.2.2.2))), fun h => by subst h; exact ⟨rfl, rfl, rfl, rfl, rfl⟩⟩
theorem entry_bulk {x : tCacheEntry.D} (s : Ty.bulk tCacheEntry x ≤ 1048576) : Ty.bulk tData x.1 ≤ 1048576 := by
  have h1 : Ty.bulk tData x.1 + 0 ≤ 1048576 := s
  omega
theorem store_bulk {x : tContentStore.D} (s : Ty.bulk tContentStore x ≤ 1048576) : Ty.bulk (.sl tCacheEntry) x.2 ≤ 1048576 := by
  have h1 : 0 + Ty.bulk (.sl tCacheEntry) x.2 ≤ 1048576 := s
  omega
set_option maxHeartbeats 1000000 in
theorem C_impl_EqualContentStores1 (W : World) (ds1 : List Value) (x : Ty.D tCacheEntry) (ds2 : List Value) (y : Ty.D tCacheEntry) (h1 : tCacheEntry.rd W ds1 x) (h2 : tCacheEntry.rd W ds2 y) (s0 : Ty.bulk tCacheEntry x ≤ 1048576) (s1 : Ty.bulk tCacheEntry y ≤ 1048576) :
    Calls Try.prog 65 #[.agg ds1.toArray, .agg ds2.toArray] W (RetB W (decide (x = y))) := by
  obtain ⟨Ax00, cx00, Ax01, cx01, Ax02, cx02, rfl, xg0, xg1⟩ := rd_CacheEntry h1
  obtain ⟨Ay00, cy00, Ay01, cy01, Ay02, cy02, rfl, yg0, yg1⟩ := rd_CacheEntry h2
  have HF : Hid (decide (x = y) = (f_EqualData x.1 y.1 && decide (x.2 = y.2))) := by
    show _ = _
    rw [data_eq, Bool.eq_iff_iff]
    simp only [Bool.and_eq_true, decide_eq_true_eq]
    exact ⟨fun h => by subst h; exact ⟨rfl, rfl⟩, fun h => Prod.ext h.1 h.2⟩
  generalize decide (x = y) = F at HF ⊢
  have kb0_0 : ((W.alloc (.cells #[.slice Ax00 (List.length x.1.1) cx00, .slice Ax01 (List.length x.1.2.1) cx01, .slice Ax02 (List.length x.1.2.2.1) cx02, .int .i64 x.1.2.2.2.1, .int .i64 x.1.2.2.2.2, .int .i64 x.2] 91)).alloc (.cells #[.slice Ay00 (List.length y.1.1) cy00, .slice Ay01 (List.length y.1.2.1) cy01, .slice Ay02 (List.length y.1.2.2.1) cy02, .int .i64 y.1.2.2.2.1, .int .i64 y.1.2.2.2.2, .int .i64 y.2] 91)).cell? ⟨W.heap.size, 0, none⟩ = some (.slice Ax00 (List.length x.1.1) cx00) := ((World.cell?_alloc_lt _ _ _ (by simp only [World.size_alloc]; omega)).trans (cell_new W _ _ 0 (by first | rfl | simp only [World.size_alloc])))
  have kb0_1 : ((W.alloc (.cells #[.slice Ax00 (List.length x.1.1) cx00, .slice Ax01 (List.length x.1.2.1) cx01, .slice Ax02 (List.length x.1.2.2.1) cx02, .int .i64 x.1.2.2.2.1, .int .i64 x.1.2.2.2.2, .int .i64 x.2] 91)).alloc (.cells #[.slice Ay00 (List.length y.1.1) cy00, .slice Ay01 (List.length y.1.2.1) cy01, .slice Ay02 (List.length y.1.2.2.1) cy02, .int .i64 y.1.2.2.2.1, .int .i64 y.1.2.2.2.2, .int .i64 y.2] 91)).cell? ⟨W.heap.size, 1, none⟩ = some (.slice Ax01 (List.length x.1.2.1) cx01) := ((World.cell?_alloc_lt _ _ _ (by simp only [World.size_alloc]; omega)).trans (cell_new W _ _ 1 (by first | rfl | simp only [World.size_alloc])))
  have kb0_2 : ((W.alloc (.cells #[.slice Ax00 (List.length x.1.1) cx00, .slice Ax01 (List.length x.1.2.1) cx01, .slice Ax02 (List.length x.1.2.2.1) cx02, .int .i64 x.1.2.2.2.1, .int .i64 x.1.2.2.2.2, .int .i64 x.2] 91)).alloc (.cells #[.slice Ay00 (List.length y.1.1) cy00, .slice Ay01 (List.length y.1.2.1) cy01, .slice Ay02 (List.length y.1.2.2.1) cy02, .int .i64 y.1.2.2.2.1, .int .i64 y.1.2.2.2.2, .int .i64 y.2] 91)).cell? ⟨W.heap.size, 2, none⟩ = some (.slice Ax02 (List.length x.1.2.2.1) cx02) := ((World.cell?_alloc_lt _ _ _ (by simp only [World.size_alloc]; omega)).trans (cell_new W _ _ 2 (by first | rfl | simp only [World.size_alloc])))
  have kb0_3 : ((W.alloc (.cells #[.slice Ax00 (List.length x.1.1) cx00, .slice Ax01 (List.length x.1.2.1) cx01, .slice Ax02 (List.length x.1.2.2.1) cx02, .int .i64 x.1.2.2.2.1, .int .i64 x.1.2.2.2.2, .int .i64 x.2] 91)).alloc (.cells #[.slice Ay00 (List.length y.1.1) cy00, .slice Ay01 (List.length y.1.2.1) cy01, .slice Ay02 (List.length y.1.2.2.1) cy02, .int .i64 y.1.2.2.2.1, .int .i64 y.1.2.2.2.2, .int .i64 y.2] 91)).cell? ⟨W.heap.size, 3, none⟩ = some (.int .i64 x.1.2.2.2.1) := ((World.cell?_alloc_lt _ _ _ (by simp only [World.size_alloc]; omega)).trans (cell_new W _ _ 3 (by first | rfl | simp only [World.size_alloc])))
  have kb0_4 : ((W.alloc (.cells #[.slice Ax00 (List.length x.1.1) cx00, .slice Ax01 (List.length x.1.2.1) cx01, .slice Ax02 (List.length x.1.2.2.1) cx02, .int .i64 x.1.2.2.2.1, .int .i64 x.1.2.2.2.2, .int .i64 x.2] 91)).alloc (.cells #[.slice Ay00 (List.length y.1.1) cy00, .slice Ay01 (List.length y.1.2.1) cy01, .slice Ay02 (List.length y.1.2.2.1) cy02, .int .i64 y.1.2.2.2.1, .int .i64 y.1.2.2.2.2, .int .i64 y.2] 91)).cell? ⟨W.heap.size, 4, none⟩ = some (.int .i64 x.1.2.2.2.2) := ((World.cell?_alloc_lt _ _ _ (by simp only [World.size_alloc]; omega)).trans (cell_new W _ _ 4 (by first | rfl | simp only [World.size_alloc])))
  have kb0_5 : ((W.alloc (.cells #[.slice Ax00 (List.length x.1.1) cx00, .slice Ax01 (List.length x.1.2.1) cx01, .slice Ax02 (List.length x.1.2.2.1) cx02, .int .i64 x.1.2.2.2.1, .int .i64 x.1.2.2.2.2, .int .i64 x.2] 91)).alloc (.cells #[.slice Ay00 (List.length y.1.1) cy00, .slice Ay01 (List.length y.1.2.1) cy01, .slice Ay02 (List.length y.1.2.2.1) cy02, .int .i64 y.1.2.2.2.1, .int .i64 y.1.2.2.2.2, .int .i64 y.2] 91)).cell? ⟨W.heap.size, 5, none⟩ = some (.int .i64 x.2) := ((World.cell?_alloc_lt _ _ _ (by simp only [World.size_alloc]; omega)).trans (cell_new W _ _ 5 (by first | rfl | simp only [World.size_alloc])))
  have kb1_0 : ((W.alloc (.cells #[.slice Ax00 (List.length x.1.1) cx00, .slice Ax01 (List.length x.1.2.1) cx01, .slice Ax02 (List.length x.1.2.2.1) cx02, .int .i64 x.1.2.2.2.1, .int .i64 x.1.2.2.2.2, .int .i64 x.2] 91)).alloc (.cells #[.slice Ay00 (List.length y.1.1) cy00, .slice Ay01 (List.length y.1.2.1) cy01, .slice Ay02 (List.length y.1.2.2.1) cy02, .int .i64 y.1.2.2.2.1, .int .i64 y.1.2.2.2.2, .int .i64 y.2] 91)).cell? ⟨W.heap.size + 1, 0, none⟩ = some (.slice Ay00 (List.length y.1.1) cy00) := (cell_new (W.alloc (.cells #[.slice Ax00 (List.length x.1.1) cx00, .slice Ax01 (List.length x.1.2.1) cx01, .slice Ax02 (List.length x.1.2.2.1) cx02, .int .i64 x.1.2.2.2.1, .int .i64 x.1.2.2.2.2, .int .i64 x.2] 91)) _ _ 0 (by first | rfl | simp only [World.size_alloc]))
  have kb1_1 : ((W.alloc (.cells #[.slice Ax00 (List.length x.1.1) cx00, .slice Ax01 (List.length x.1.2.1) cx01, .slice Ax02 (List.length x.1.2.2.1) cx02, .int .i64 x.1.2.2.2.1, .int .i64 x.1.2.2.2.2, .int .i64 x.2] 91)).alloc (.cells #[.slice Ay00 (List.length y.1.1) cy00, .slice Ay01 (List.length y.1.2.1) cy01, .slice Ay02 (List.length y.1.2.2.1) cy02, .int .i64 y.1.2.2.2.1, .int .i64 y.1.2.2.2.2, .int .i64 y.2] 91)).cell? ⟨W.heap.size + 1, 1, none⟩ = some (.slice Ay01 (List.length y.1.2.1) cy01) := (cell_new (W.alloc (.cells #[.slice Ax00 (List.length x.1.1) cx00, .slice Ax01 (List.length x.1.2.1) cx01, .slice Ax02 (List.length x.1.2.2.1) cx02, .int .i64 x.1.2.2.2.1, .int .i64 x.1.2.2.2.2, .int .i64 x.2] 91)) _ _ 1 (by first | rfl | simp only [World.size_alloc]))
  have kb1_2 : ((W.alloc (.cells #[.slice Ax00 (List.length x.1.1) cx00, .slice Ax01 (List.length x.1.2.1) cx01, .slice Ax02 (List.length x.1.2.2.1) cx02, .int .i64 x.1.2.2.2.1, .int .i64 x.1.2.2.2.2, .int .i64 x.2] 91)).alloc (.cells #[.slice Ay00 (List.length y.1.1) cy00, .slice Ay01 (List.length y.1.2.1) cy01, .slice Ay02 (List.length y.1.2.2.1) cy02, .int .i64 y.1.2.2.2.1, .int .i64 y.1.2.2.2.2, .int .i64 y.2] 91)).cell? ⟨W.heap.size + 1, 2, none⟩ = some (.slice Ay02 (List.length y.1.2.2.1) cy02) := (cell_new (W.alloc (.cells #[.slice Ax00 (List.length x.1.1) cx00, .slice Ax01 (List.length x.1.2.1) cx01, .slice Ax02 (List.length x.1.2.2.1) cx02, .int .i64 x.1.2.2.2.1, .int .i64 x.1.2.2.2.2, .int .i64 x.2] 91)) _ _ 2 (by first | rfl | simp only [World.size_alloc]))
  have kb1_3 : ((W.alloc (.cells #[.slice Ax00 (List.length x.1.1) cx00, .slice Ax01 (List.length x.1.2.1) cx01, .slice Ax02 (List.length x.1.2.2.1) cx02, .int .i64 x.1.2.2.2.1, .int .i64 x.1.2.2.2.2, .int .i64 x.2] 91)).alloc (.cells #[.slice Ay00 (List.length y.1.1) cy00, .slice Ay01 (List.length y.1.2.1) cy01, .slice Ay02 (List.length y.1.2.2.1) cy02, .int .i64 y.1.2.2.2.1, .int .i64 y.1.2.2.2.2, .int .i64 y.2] 91)).cell? ⟨W.heap.size + 1, 3, none⟩ = some (.int .i64 y.1.2.2.2.1) := (cell_new (W.alloc (.cells #[.slice Ax00 (List.length x.1.1) cx00, .slice Ax01 (List.length x.1.2.1) cx01, .slice Ax02 (List.length x.1.2.2.1) cx02, .int .i64 x.1.2.2.2.1, .int .i64 x.1.2.2.2.2, .int .i64 x.2] 91)) _ _ 3 (by first | rfl | simp only [World.size_alloc]))
  have kb1_4 : ((W.alloc (.cells #[.slice Ax00 (List.length x.1.1) cx00, .slice Ax01 (List.length x.1.2.1) cx01, .slice Ax02 (List.length x.1.2.2.1) cx02, .int .i64 x.1.2.2.2.1, .int .i64 x.1.2.2.2.2, .int .i64 x.2] 91)).alloc (.cells #[.slice Ay00 (List.length y.1.1) cy00, .slice Ay01 (List.length y.1.2.1) cy01, .slice Ay02 (List.length y.1.2.2.1) cy02, .int .i64 y.1.2.2.2.1, .int .i64 y.1.2.2.2.2, .int .i64 y.2] 91)).cell? ⟨W.heap.size + 1, 4, none⟩ = some (.int .i64 y.1.2.2.2.2) := (cell_new (W.alloc (.cells #[.slice Ax00 (List.length x.1.1) cx00, .slice Ax01 (List.length x.1.2.1) cx01, .slice Ax02 (List.length x.1.2.2.1) cx02, .int .i64 x.1.2.2.2.1, .int .i64 x.1.2.2.2.2, .int .i64 x.2] 91)) _ _ 4 (by first | rfl | simp only [World.size_alloc]))
  have kb1_5 : ((W.alloc (.cells #[.slice Ax00 (List.length x.1.1) cx00, .slice Ax01 (List.length x.1.2.1) cx01, .slice Ax02 (List.length x.1.2.2.1) cx02, .int .i64 x.1.2.2.2.1, .int .i64 x.1.2.2.2.2, .int .i64 x.2] 91)).alloc (.cells #[.slice Ay00 (List.length y.1.1) cy00, .slice Ay01 (List.length y.1.2.1) cy01, .slice Ay02 (List.length y.1.2.2.1) cy02, .int .i64 y.1.2.2.2.1, .int .i64 y.1.2.2.2.2, .int .i64 y.2] 91)).cell? ⟨W.heap.size + 1, 5, none⟩ = some (.int .i64 y.2) := (cell_new (W.alloc (.cells #[.slice Ax00 (List.length x.1.1) cx00, .slice Ax01 (List.length x.1.2.1) cx01, .slice Ax02 (List.length x.1.2.2.1) cx02, .int .i64 x.1.2.2.2.1, .int .i64 x.1.2.2.2.2, .int .i64 x.2] 91)) _ _ 5 (by first | rfl | simp only [World.size_alloc]))
  have hvb : Below W.heap.size W ((W.alloc (.cells #[.slice Ax00 (List.length x.1.1) cx00, .slice Ax01 (List.length x.1.2.1) cx01, .slice Ax02 (List.length x.1.2.2.1) cx02, .int .i64 x.1.2.2.2.1, .int .i64 x.1.2.2.2.2, .int .i64 x.2] 91)).alloc (.cells #[.slice Ay00 (List.length y.1.1) cy00, .slice Ay01 (List.length y.1.2.1) cy01, .slice Ay02 (List.length y.1.2.2.1) cy02, .int .i64 y.1.2.2.2.1, .int .i64 y.1.2.2.2.2, .int .i64 y.2] 91)) := (by repeat' (first | (with_reducible exact Below.refl _ _) | (with_reducible assumption) | (with_reducible refine bel_set ?_ (by (try dsimp only); omega) _) | (with_reducible refine bel_alloc ?_ _) | (with_reducible refine bel_drewN ?_ _) | (with_reducible refine bel_drew ?_)))
  have zb0 := Lib.hid (show ((W.alloc (.cells #[.slice Ax00 (List.length x.1.1) cx00, .slice Ax01 (List.length x.1.2.1) cx01, .slice Ax02 (List.length x.1.2.2.1) cx02, .int .i64 x.1.2.2.2.1, .int .i64 x.1.2.2.2.2, .int .i64 x.2] 91)).alloc (.cells #[.slice Ay00 (List.length y.1.1) cy00, .slice Ay01 (List.length y.1.2.1) cy01, .slice Ay02 (List.length y.1.2.2.1) cy02, .int .i64 y.1.2.2.2.1, .int .i64 y.1.2.2.2.2, .int .i64 y.2] 91)).heap.size = W.heap.size + 1 + 1 from by simp only [World.size_alloc])
  have zb : W.heap.size + 1 < ((W.alloc (.cells #[.slice Ax00 (List.length x.1.1) cx00, .slice Ax01 (List.length x.1.2.1) cx01, .slice Ax02 (List.length x.1.2.2.1) cx02, .int .i64 x.1.2.2.2.1, .int .i64 x.1.2.2.2.2, .int .i64 x.2] 91)).alloc (.cells #[.slice Ay00 (List.length y.1.1) cy00, .slice Ay01 (List.length y.1.2.1) cy01, .slice Ay02 (List.length y.1.2.2.1) cy02, .int .i64 y.1.2.2.2.1, .int .i64 y.1.2.2.2.2, .int .i64 y.2] 91)).heap.size := by simp only [World.size_alloc]; omega
  cases q5 : (x.2 == y.2)
  all_goals
    have HQ5 : Hid (decide (x.2 = y.2) = (x.2 == y.2)) := by show _ = _; rw [Bool.eq_iff_iff]; simp
    rw [q5] at HQ5
    go_enter Try.func65, Try.ntmps65
    go_wp2_with fail
    generalize ((W.alloc (.cells #[.slice Ax00 (List.length x.1.1) cx00, .slice Ax01 (List.length x.1.2.1) cx01, .slice Ax02 (List.length x.1.2.2.1) cx02, .int .i64 x.1.2.2.2.1, .int .i64 x.1.2.2.2.2, .int .i64 x.2] 91)).alloc (.cells #[.slice Ay00 (List.length y.1.1) cy00, .slice Ay01 (List.length y.1.2.1) cy01, .slice Ay02 (List.length y.1.2.2.1) cy02, .int .i64 y.1.2.2.2.1, .int .i64 y.1.2.2.2.2, .int .i64 y.2] 91)) = WX at kb0_0 kb0_1 kb0_2 kb0_3 kb0_4 kb0_5 kb1_0 kb1_1 kb1_2 kb1_3 kb1_4 kb1_5 hvb zb zb0 ⊢
    have HC : Hid (∀ V, Below WX.heap.size WX V → V.cell? ⟨W.heap.size, 0, none⟩ = some (.slice Ax00 (List.length x.1.1) cx00) ∧ V.cell? ⟨W.heap.size, 1, none⟩ = some (.slice Ax01 (List.length x.1.2.1) cx01) ∧ V.cell? ⟨W.heap.size, 2, none⟩ = some (.slice Ax02 (List.length x.1.2.2.1) cx02) ∧ V.cell? ⟨W.heap.size, 3, none⟩ = some (.int .i64 x.1.2.2.2.1) ∧ V.cell? ⟨W.heap.size, 4, none⟩ = some (.int .i64 x.1.2.2.2.2) ∧ V.cell? ⟨W.heap.size, 5, none⟩ = some (.int .i64 x.2) ∧ V.cell? ⟨W.heap.size + 1, 0, none⟩ = some (.slice Ay00 (List.length y.1.1) cy00) ∧ V.cell? ⟨W.heap.size + 1, 1, none⟩ = some (.slice Ay01 (List.length y.1.2.1) cy01) ∧ V.cell? ⟨W.heap.size + 1, 2, none⟩ = some (.slice Ay02 (List.length y.1.2.2.1) cy02) ∧ V.cell? ⟨W.heap.size + 1, 3, none⟩ = some (.int .i64 y.1.2.2.2.1) ∧ V.cell? ⟨W.heap.size + 1, 4, none⟩ = some (.int .i64 y.1.2.2.2.2) ∧ V.cell? ⟨W.heap.size + 1, 5, none⟩ = some (.int .i64 y.2)) := fun V hW => ⟨(hW.cell (p := ⟨W.heap.size, 0, none⟩) (by dsimp only; omega)).trans kb0_0, (hW.cell (p := ⟨W.heap.size, 1, none⟩) (by dsimp only; omega)).trans kb0_1, (hW.cell (p := ⟨W.heap.size, 2, none⟩) (by dsimp only; omega)).trans kb0_2, (hW.cell (p := ⟨W.heap.size, 3, none⟩) (by dsimp only; omega)).trans kb0_3, (hW.cell (p := ⟨W.heap.size, 4, none⟩) (by dsimp only; omega)).trans kb0_4, (hW.cell (p := ⟨W.heap.size, 5, none⟩) (by dsimp only; omega)).trans kb0_5, (hW.cell (p := ⟨W.heap.size + 1, 0, none⟩) (by dsimp only; omega)).trans kb1_0, (hW.cell (p := ⟨W.heap.size + 1, 1, none⟩) (by dsimp only; omega)).trans kb1_1, (hW.cell (p := ⟨W.heap.size + 1, 2, none⟩) (by dsimp only; omega)).trans kb1_2, (hW.cell (p := ⟨W.heap.size + 1, 3, none⟩) (by dsimp only; omega)).trans kb1_3, (hW.cell (p := ⟨W.heap.size + 1, 4, none⟩) (by dsimp only; omega)).trans kb1_4, (hW.cell (p := ⟨W.heap.size + 1, 5, none⟩) (by dsimp only; omega)).trans kb1_5⟩
    clear kb0_0 kb0_1 kb0_2 kb0_3 kb0_4 kb0_5 kb1_0 kb1_1 kb1_2 kb1_3 kb1_4 kb1_5
    refine (C_impl_EqualData _ _ _ _ _ (Ty.rd_below hvb xg0) (Ty.rd_below hvb yg0) (entry_bulk s0) (entry_bulk s1)).mono ?_
    rintro e w1 ⟨rfl, hb1⟩
    obtain ⟨j0, j1, j2, j3, j4, j5, j6, j7, j8, j9, j10, j11⟩ := HC.out _ (hb1)
    have zw1 : W.heap.size + 1 < w1.heap.size := by have := hb1.size; omega
    have zw0 : W.heap.size < w1.heap.size := by omega
    cases q0 : f_EqualData x.1 y.1
    all_goals
      rw [q0] at HF
      go_wp2
      go_ret
      exact ⟨ret_bool (by rw [HF.out, HQ5.out]; rfl), bel_trans hvb hb1⟩
set_option maxRecDepth 100000 in
set_option maxHeartbeats 1000000 in
theorem C_EqualFunc_CE (w : World) (v1 v2 : Value) (x y : List (Ty.D tCacheEntry)) (g : Nat) (lb : Array Value) (eg : ∀ args w, (callFunc g args).run Try.prog w = .ok (.enter g args) w)
    (h1 : (Ty.sl tCacheEntry).rd w [v1] x) (h2 : (Ty.sl tCacheEntry).rd w [v2] y) (s0 : Ty.bulk (.sl tCacheEntry) x ≤ 1048576) (s1 : Ty.bulk (.sl tCacheEntry) y ≤ 1048576) (hp : ∀ (W : World) (ds1 : List Value) (d1 : Ty.D tCacheEntry) (ds2 : List Value) (d2 : Ty.D tCacheEntry), Ty.rd W tCacheEntry ds1 d1 → Ty.rd W tCacheEntry ds2 d2 → Ty.bulk tCacheEntry d1 ≤ 1048576 → Ty.bulk tCacheEntry d2 ≤ 1048576 → Below w.heap.size w W → Calls Try.prog g (#[.agg ds1.toArray, .agg ds2.toArray] ++ lb) W (RetB W (decide (d1 = d2)))) :
    Calls Try.prog 64 #[v1, v2, .func (.func g) #[] lb] w (RetB w (decide (x = y))) := by
  obtain ⟨A1, c1, rfl, hc1, hm1, hn1⟩ := Ty.rd_sl h1
  obtain ⟨A2, c2, rfl, hc2, hm2, hn2⟩ := Ty.rd_sl h2
  have HP := Lib.hid hp
  clear hp
  by_cases hl : x.length = y.length
  · have q1 : ((x.length : Int) != y.length) = false := by simp [hl]
    have HL := Lib.hid hl
    clear hl
    go_enter Try.func64, Try.ntmps64
    go_wp2
    go_loopw [17] (fun i wr => ∃ k : Nat, k ≤ x.length ∧ i = .int .i64 k ∧ x.take k = y.take k ∧ Below w.heap.size w wr) (fun i _ => x.length - (intOf i).toNat)
    case atStart => exact ⟨0, by omega, rfl, rfl, Below.refl _ _⟩
    case round =>
      obtain ⟨k, hk, rfl, htk, hb⟩ := hrel
      have HT := Lib.hid htk
      clear htk
      by_cases hlt : k < x.length
      · have hlt2 : k < y.length := by have := HL.out; omega
        obtain ⟨b, o, dsa, rfl, hla, hcella, hrda⟩ := Ty.rd_at (Ty.rd_below hb h1) hlt
        have hrda' := hrda
        obtain ⟨Aa00, ca00, Aa01, ca01, Aa02, ca02, rfl, ag0, ag1⟩ := rd_CacheEntry hrda
        have e0 : wr.cell? ⟨b, o + k * 6, none⟩ = some (.slice Aa00 (List.length x[k].1.1) ca00) := by simpa [Ty.sz] using hcella 0 (by decide)
        have e1 : wr.cell? ⟨b, o + k * 6 + 1, none⟩ = some (.slice Aa01 (List.length x[k].1.2.1) ca01) := by simpa [Ty.sz] using hcella 1 (by decide)
        have e2 : wr.cell? ⟨b, o + k * 6 + 2, none⟩ = some (.slice Aa02 (List.length x[k].1.2.2.1) ca02) := by simpa [Ty.sz] using hcella 2 (by decide)
        have e3 : wr.cell? ⟨b, o + k * 6 + 3, none⟩ = some (.int .i64 x[k].1.2.2.2.1) := by simpa [Ty.sz] using hcella 3 (by decide)
        have e4 : wr.cell? ⟨b, o + k * 6 + 4, none⟩ = some (.int .i64 x[k].1.2.2.2.2) := by simpa [Ty.sz] using hcella 4 (by decide)
        have e5 : wr.cell? ⟨b, o + k * 6 + 5, none⟩ = some (.int .i64 x[k].2) := by simpa [Ty.sz] using hcella 5 (by decide)
        clear hcella hla
        obtain ⟨b2, o2, dsb, rfl, hlb, hcellb, hrdb⟩ := Ty.rd_at (Ty.rd_below hb h2) hlt2
        have hrdb' := hrdb
        obtain ⟨Ab00, cb00, Ab01, cb01, Ab02, cb02, rfl, bg0, bg1⟩ := rd_CacheEntry hrdb
        have f0 : wr.cell? ⟨b2, o2 + k * 6, none⟩ = some (.slice Ab00 (List.length y[k].1.1) cb00) := by simpa [Ty.sz] using hcellb 0 (by decide)
        have f1 : wr.cell? ⟨b2, o2 + k * 6 + 1, none⟩ = some (.slice Ab01 (List.length y[k].1.2.1) cb01) := by simpa [Ty.sz] using hcellb 1 (by decide)
        have f2 : wr.cell? ⟨b2, o2 + k * 6 + 2, none⟩ = some (.slice Ab02 (List.length y[k].1.2.2.1) cb02) := by simpa [Ty.sz] using hcellb 2 (by decide)
        have f3 : wr.cell? ⟨b2, o2 + k * 6 + 3, none⟩ = some (.int .i64 y[k].1.2.2.2.1) := by simpa [Ty.sz] using hcellb 3 (by decide)
        have f4 : wr.cell? ⟨b2, o2 + k * 6 + 4, none⟩ = some (.int .i64 y[k].1.2.2.2.2) := by simpa [Ty.sz] using hcellb 4 (by decide)
        have f5 : wr.cell? ⟨b2, o2 + k * 6 + 5, none⟩ = some (.int .i64 y[k].2) := by simpa [Ty.sz] using hcellb 5 (by decide)
        clear hcellb hlb
        have hlb2 : b2 < wr.heap.size := World.block_lt_of_cell? wr _ f0
        have hcall := HP.out ((wr.alloc (.cells #[.slice Aa00 (List.length x[k].1.1) ca00, .slice Aa01 (List.length x[k].1.2.1) ca01, .slice Aa02 (List.length x[k].1.2.2.1) ca02, .int .i64 x[k].1.2.2.2.1, .int .i64 x[k].1.2.2.2.2, .int .i64 x[k].2] 91)).alloc (.cells #[.slice Ab00 (List.length y[k].1.1) cb00, .slice Ab01 (List.length y[k].1.2.1) cb01, .slice Ab02 (List.length y[k].1.2.2.1) cb02, .int .i64 y[k].1.2.2.2.1, .int .i64 y[k].1.2.2.2.2, .int .i64 y[k].2] 91)) _ x[k] _ y[k] (Ty.rd_below (by repeat' (first | (with_reducible exact Below.refl _ _) | (with_reducible assumption) | (with_reducible refine bel_set ?_ (by (try dsimp only); omega) _) | (with_reducible refine bel_alloc ?_ _) | (with_reducible refine bel_drewN ?_ _) | (with_reducible refine bel_drew ?_))) hrda') (Ty.rd_below (by repeat' (first | (with_reducible exact Below.refl _ _) | (with_reducible assumption) | (with_reducible refine bel_set ?_ (by (try dsimp only); omega) _) | (with_reducible refine bel_alloc ?_ _) | (with_reducible refine bel_drewN ?_ _) | (with_reducible refine bel_drew ?_))) hrdb') (Ty.bulk_at s0 hlt) (Ty.bulk_at s1 hlt2) (bel_trans hb (by repeat' (first | (with_reducible exact Below.refl _ _) | (with_reducible assumption) | (with_reducible refine bel_set ?_ (by (try dsimp only); omega) _) | (with_reducible refine bel_alloc ?_ _) | (with_reducible refine bel_drewN ?_ _) | (with_reducible refine bel_drew ?_))))
        cases hq : decide (x[k] = y[k])
        · have HE : Hid (¬ x = y) := fun h => by subst h; simp at hq
          rw [hq] at hcall
          clear hq
          go_wp2_with (go_at_fn g; refine hcall.mono ?_; rintro e w' ⟨rfl, hb'⟩)
          go_ret
          exact ⟨ret_bool (by simp [HE.out]), bel_trans hb (bel_trans (by repeat' (first | (with_reducible exact Below.refl _ _) | (with_reducible assumption) | (with_reducible refine bel_set ?_ (by (try dsimp only); omega) _) | (with_reducible refine bel_alloc ?_ _) | (with_reducible refine bel_drewN ?_ _) | (with_reducible refine bel_drew ?_))) hb')⟩
        · have HE := Lib.hid (take_eq_succ hlt hlt2 HT.out (by simpa using hq))
          rw [hq] at hcall
          clear hq
          go_wp2_with (go_at_fn g; refine hcall.mono ?_; rintro e w' ⟨rfl, hb'⟩)
          go_roundw
          case rel => exact ⟨k + 1, by omega, by go_num, HE.out, bel_trans hb (bel_trans (by repeat' (first | (with_reducible exact Below.refl _ _) | (with_reducible assumption) | (with_reducible refine bel_set ?_ (by (try dsimp only); omega) _) | (with_reducible refine bel_alloc ?_ _) | (with_reducible refine bel_drewN ?_ _) | (with_reducible refine bel_drew ?_))) hb')⟩
          case measure => simp [intOf]; omega
      · have HE : Hid (x = y) := take_eq_all (k := k) (by omega) (by have := HL.out; omega) HT.out
        go_wp2
        go_ret
        exact ⟨ret_bool (by simp [HE.out]), hb⟩
  · have q1 : ((x.length : Int) != y.length) = true := by rw [bne_iff_ne]; omega
    have HE : Hid (¬ x = y) := fun h => hl (congrArg List.length h)
    go_enter Try.func64, Try.ntmps64
    go_wp2
    go_ret
    exact ⟨ret_bool (by simp [HE.out]), Below.refl _ _⟩
set_option maxHeartbeats 1000000 in
theorem C_impl_EqualContentStores (w : World) (cs1 : List Value) (x : tContentStore.D) (cs2 : List Value) (y : tContentStore.D) (h1 : tContentStore.rd w cs1 x) (h2 : tContentStore.rd w cs2 y) (s0 : Ty.bulk tContentStore x ≤ 1048576) (s1 : Ty.bulk tContentStore y ≤ 1048576) :
    Calls Try.prog 22 #[.agg cs1.toArray, .agg cs2.toArray] w (RetB w (f_EqualContentStores x y)) := by
  obtain ⟨Ax1, cx1, rfl, xg0, xg1⟩ := rd_ContentStore h1
  obtain ⟨Ay1, cy1, rfl, yg0, yg1⟩ := rd_ContentStore h2
  have s0e := store_bulk s0
  have s1e := store_bulk s1
  have HF : Hid (f_EqualContentStores x y = (decide (x.1 = y.1) && decide (x.2 = y.2))) := by
    show decide (x = y) = _
    rw [Bool.eq_iff_iff]
    simp only [Bool.and_eq_true, decide_eq_true_eq]
    exact ⟨fun h => by subst h; exact ⟨rfl, rfl⟩, fun h => Prod.ext h.1 h.2⟩
  generalize f_EqualContentStores x y = F at HF ⊢
  have kb0_0 : ((w.alloc (.cells #[.int .i64 x.1, .slice Ax1 (List.length x.2) cx1] 24)).alloc (.cells #[.int .i64 y.1, .slice Ay1 (List.length y.2) cy1] 24)).cell? ⟨w.heap.size, 0, none⟩ = some (.int .i64 x.1) := ((World.cell?_alloc_lt _ _ _ (by simp only [World.size_alloc]; omega)).trans (cell_new w _ _ 0 (by first | rfl | simp only [World.size_alloc])))
  have kb0_1 : ((w.alloc (.cells #[.int .i64 x.1, .slice Ax1 (List.length x.2) cx1] 24)).alloc (.cells #[.int .i64 y.1, .slice Ay1 (List.length y.2) cy1] 24)).cell? ⟨w.heap.size, 1, none⟩ = some (.slice Ax1 (List.length x.2) cx1) := ((World.cell?_alloc_lt _ _ _ (by simp only [World.size_alloc]; omega)).trans (cell_new w _ _ 1 (by first | rfl | simp only [World.size_alloc])))
  have kb1_0 : ((w.alloc (.cells #[.int .i64 x.1, .slice Ax1 (List.length x.2) cx1] 24)).alloc (.cells #[.int .i64 y.1, .slice Ay1 (List.length y.2) cy1] 24)).cell? ⟨w.heap.size + 1, 0, none⟩ = some (.int .i64 y.1) := (cell_new (w.alloc (.cells #[.int .i64 x.1, .slice Ax1 (List.length x.2) cx1] 24)) _ _ 0 (by first | rfl | simp only [World.size_alloc]))
  have kb1_1 : ((w.alloc (.cells #[.int .i64 x.1, .slice Ax1 (List.length x.2) cx1] 24)).alloc (.cells #[.int .i64 y.1, .slice Ay1 (List.length y.2) cy1] 24)).cell? ⟨w.heap.size + 1, 1, none⟩ = some (.slice Ay1 (List.length y.2) cy1) := (cell_new (w.alloc (.cells #[.int .i64 x.1, .slice Ax1 (List.length x.2) cx1] 24)) _ _ 1 (by first | rfl | simp only [World.size_alloc]))
  have hvb : Below w.heap.size w ((w.alloc (.cells #[.int .i64 x.1, .slice Ax1 (List.length x.2) cx1] 24)).alloc (.cells #[.int .i64 y.1, .slice Ay1 (List.length y.2) cy1] 24)) := (by repeat' (first | (with_reducible exact Below.refl _ _) | (with_reducible assumption) | (with_reducible refine bel_set ?_ (by (try dsimp only); omega) _) | (with_reducible refine bel_alloc ?_ _) | (with_reducible refine bel_drewN ?_ _) | (with_reducible refine bel_drew ?_)))
  have zb0 := Lib.hid (show ((w.alloc (.cells #[.int .i64 x.1, .slice Ax1 (List.length x.2) cx1] 24)).alloc (.cells #[.int .i64 y.1, .slice Ay1 (List.length y.2) cy1] 24)).heap.size = w.heap.size + 1 + 1 from by simp only [World.size_alloc])
  have zb : w.heap.size + 1 < ((w.alloc (.cells #[.int .i64 x.1, .slice Ax1 (List.length x.2) cx1] 24)).alloc (.cells #[.int .i64 y.1, .slice Ay1 (List.length y.2) cy1] 24)).heap.size := by simp only [World.size_alloc]; omega
  cases q5 : (x.1 == y.1)
  · have HQ5 : Hid (decide (x.1 = y.1) = false) := by show _ = _; rw [← q5, Bool.eq_iff_iff]; simp
    go_enter Try.func22, Try.ntmps22
    go_wp2
    go_ret
    exact ⟨ret_bool (by rw [HF.out, HQ5.out]; rfl), hvb⟩
  · have HQ5 : Hid (decide (x.1 = y.1) = true) := by show _ = _; rw [← q5, Bool.eq_iff_iff]; simp
    go_enter Try.func22, Try.ntmps22
    go_wp2_with fail
    refine (C_EqualFunc_CE _ _ _ x.2 y.2 65 #[] (enters_of Try.func65 (by kernel_rfl) rfl) (Ty.rd_below hvb xg1) (Ty.rd_below hvb yg1) s0e s1e (fun W ds1 d1 ds2 d2 r1 r2 t1 t2 _ => by rw [Array.append_empty]; exact C_impl_EqualContentStores1 W ds1 d1 ds2 d2 r1 r2 t1 t2)).mono ?_
    rintro e w1 ⟨rfl, hb1⟩
    go_wp2
    go_ret
    exact ⟨ret_bool (by rw [HF.out, HQ5.out]; rfl), bel_trans hvb hb1⟩
set_option maxRecDepth 100000 in
set_option maxHeartbeats 1000000 in
theorem C_spec_EqualContentStores (w : World) (cs1 : List Value) (x : tContentStore.D) (cs2 : List Value) (y : tContentStore.D) (h1 : tContentStore.rd w cs1 x) (h2 : tContentStore.rd w cs2 y) (s0 : Ty.bulk tContentStore x ≤ 1048576) (s1 : Ty.bulk tContentStore y ≤ 1048576) :
    Calls Try.prog 20 #[.agg cs1.toArray, .agg cs2.toArray] w (RetB w (f_EqualContentStores x y)) := by
  obtain ⟨Ax1, cx1, rfl, xg0, xg1⟩ := rd_ContentStore h1
  obtain ⟨Ay1, cy1, rfl, yg0, yg1⟩ := rd_ContentStore h2
  have s0e := store_bulk s0
  have s1e := store_bulk s1
  have HF : Hid (f_EqualContentStores x y = (decide (x.1 = y.1) && decide (x.2 = y.2))) := by
    show decide (x = y) = _
    rw [Bool.eq_iff_iff]
    simp only [Bool.and_eq_true, decide_eq_true_eq]
    exact ⟨fun h => by subst h; exact ⟨rfl, rfl⟩, fun h => Prod.ext h.1 h.2⟩
  generalize f_EqualContentStores x y = F at HF ⊢
  have kb0_0 : ((w.alloc (.cells #[.int .i64 x.1, .slice Ax1 (List.length x.2) cx1] 24)).alloc (.cells #[.int .i64 y.1, .slice Ay1 (List.length y.2) cy1] 24)).cell? ⟨w.heap.size, 0, none⟩ = some (.int .i64 x.1) := ((World.cell?_alloc_lt _ _ _ (by simp only [World.size_alloc]; omega)).trans (cell_new w _ _ 0 (by first | rfl | simp only [World.size_alloc])))
  have kb0_1 : ((w.alloc (.cells #[.int .i64 x.1, .slice Ax1 (List.length x.2) cx1] 24)).alloc (.cells #[.int .i64 y.1, .slice Ay1 (List.length y.2) cy1] 24)).cell? ⟨w.heap.size, 1, none⟩ = some (.slice Ax1 (List.length x.2) cx1) := ((World.cell?_alloc_lt _ _ _ (by simp only [World.size_alloc]; omega)).trans (cell_new w _ _ 1 (by first | rfl | simp only [World.size_alloc])))
  have kb1_0 : ((w.alloc (.cells #[.int .i64 x.1, .slice Ax1 (List.length x.2) cx1] 24)).alloc (.cells #[.int .i64 y.1, .slice Ay1 (List.length y.2) cy1] 24)).cell? ⟨w.heap.size + 1, 0, none⟩ = some (.int .i64 y.1) := (cell_new (w.alloc (.cells #[.int .i64 x.1, .slice Ax1 (List.length x.2) cx1] 24)) _ _ 0 (by first | rfl | simp only [World.size_alloc]))
  have kb1_1 : ((w.alloc (.cells #[.int .i64 x.1, .slice Ax1 (List.length x.2) cx1] 24)).alloc (.cells #[.int .i64 y.1, .slice Ay1 (List.length y.2) cy1] 24)).cell? ⟨w.heap.size + 1, 1, none⟩ = some (.slice Ay1 (List.length y.2) cy1) := (cell_new (w.alloc (.cells #[.int .i64 x.1, .slice Ax1 (List.length x.2) cx1] 24)) _ _ 1 (by first | rfl | simp only [World.size_alloc]))
  have hvb : Below w.heap.size w ((w.alloc (.cells #[.int .i64 x.1, .slice Ax1 (List.length x.2) cx1] 24)).alloc (.cells #[.int .i64 y.1, .slice Ay1 (List.length y.2) cy1] 24)) := (by repeat' (first | (with_reducible exact Below.refl _ _) | (with_reducible assumption) | (with_reducible refine bel_set ?_ (by (try dsimp only); omega) _) | (with_reducible refine bel_alloc ?_ _) | (with_reducible refine bel_drewN ?_ _) | (with_reducible refine bel_drew ?_)))
  have zb0 := Lib.hid (show ((w.alloc (.cells #[.int .i64 x.1, .slice Ax1 (List.length x.2) cx1] 24)).alloc (.cells #[.int .i64 y.1, .slice Ay1 (List.length y.2) cy1] 24)).heap.size = w.heap.size + 1 + 1 from by simp only [World.size_alloc])
  have zb : w.heap.size + 1 < ((w.alloc (.cells #[.int .i64 x.1, .slice Ax1 (List.length x.2) cx1] 24)).alloc (.cells #[.int .i64 y.1, .slice Ay1 (List.length y.2) cy1] 24)).heap.size := by simp only [World.size_alloc]; omega
  obtain ⟨_, _, _, _, _, m9⟩ := Ty.rd_sl xg1
  cases q5 : (x.1 != y.1)
  rotate_left
  · have HQ5 : Hid (decide (x.1 = y.1) = false) := by show _ = _; simpa using q5
    go_enter Try.func20, Try.ntmps20
    go_wp2
    go_ret
    exact ⟨ret_bool (by rw [HF.out, HQ5.out]; rfl), hvb⟩
  have HQ5 : Hid (decide (x.1 = y.1) = true) := by show _ = _; simpa using q5
  by_cases hl : List.length x.2 = List.length y.2
  rotate_left
  · have q1 : ((List.length x.2 : Int) != List.length y.2) = true := by rw [bne_iff_ne]; omega
    have HE : Hid (decide (x.2 = y.2) = false) := by show _ = _; simp only [decide_eq_false_iff_not]; exact fun h => hl (congrArg List.length h)
    go_enter Try.func20, Try.ntmps20
    go_wp2
    go_ret
    exact ⟨ret_bool (by rw [HF.out, HE.out, HQ5.out]; rfl), hvb⟩
  have q1 : ((List.length x.2 : Int) != List.length y.2) = false := by simp [hl]
  have HL := Lib.hid hl
  clear hl
  go_enter Try.func20, Try.ntmps20
  go_wp2
  generalize ((w.alloc (.cells #[.int .i64 x.1, .slice Ax1 (List.length x.2) cx1] 24)).alloc (.cells #[.int .i64 y.1, .slice Ay1 (List.length y.2) cy1] 24)) = WX at kb0_0 kb0_1 kb1_0 kb1_1 hvb zb zb0 ⊢
  have HC : Hid (∀ V, Below WX.heap.size WX V → V.cell? ⟨w.heap.size, 0, none⟩ = some (.int .i64 x.1) ∧ V.cell? ⟨w.heap.size, 1, none⟩ = some (.slice Ax1 (List.length x.2) cx1) ∧ V.cell? ⟨w.heap.size + 1, 0, none⟩ = some (.int .i64 y.1) ∧ V.cell? ⟨w.heap.size + 1, 1, none⟩ = some (.slice Ay1 (List.length y.2) cy1)) := fun V hW => ⟨(hW.cell (p := ⟨w.heap.size, 0, none⟩) (by dsimp only; omega)).trans kb0_0, (hW.cell (p := ⟨w.heap.size, 1, none⟩) (by dsimp only; omega)).trans kb0_1, (hW.cell (p := ⟨w.heap.size + 1, 0, none⟩) (by dsimp only; omega)).trans kb1_0, (hW.cell (p := ⟨w.heap.size + 1, 1, none⟩) (by dsimp only; omega)).trans kb1_1⟩
  clear kb0_0 kb0_1 kb1_0 kb1_1
  clear q1 q5
  go_loopw [5] (fun i wr => ∃ k : Nat, k ≤ List.length x.2 ∧ i = .int .i64 k ∧ List.take k x.2 = List.take k y.2 ∧ Below WX.heap.size WX wr) (fun i _ => List.length x.2 - (intOf i).toNat)
  case atStart => exact ⟨0, by omega, by first | rfl | simp, rfl, Below.refl _ _⟩
  case round =>
    obtain ⟨k, hk, rfl, htk, hb⟩ := hrel
    have HT := Lib.hid htk
    clear htk
    obtain ⟨wo, hwo⟩ : ∃ wo, wo = wr := ⟨_, rfl⟩
    subst hwo
    have hw : Below w.heap.size w wo := bel_trans hvb hb
    obtain ⟨j0, j1, j2, j3⟩ := HC.out _ (hb)
    by_cases hlt : k < List.length x.2
    rotate_left
    · have HE : Hid (decide (x.2 = y.2) = true) := by show _ = _; simp only [decide_eq_true_eq]; exact take_eq_all (k := k) (by omega) (by have := HL.out; omega) HT.out
      go_wp2
      go_ret
      exact ⟨ret_bool (by rw [HF.out, HE.out, HQ5.out]; rfl), hw⟩
    have hlt2 : k < List.length y.2 := by have := HL.out; omega
    obtain ⟨b, o, dsa, rfl, hla, hcella, hrda⟩ := Ty.rd_at (Ty.rd_below hw xg1) hlt
    have hrda' := hrda
    obtain ⟨Aa00, ca00, Aa01, ca01, Aa02, ca02, rfl, ag0, ag1⟩ := rd_CacheEntry hrda
    have e0 : wo.cell? ⟨b, o + k * 6, none⟩ = some (.slice Aa00 (List.length (x.2)[k].1.1) ca00) := by simpa [Ty.sz] using hcella 0 (by decide)
    have e1 : wo.cell? ⟨b, o + k * 6 + 1, none⟩ = some (.slice Aa01 (List.length (x.2)[k].1.2.1) ca01) := by simpa [Ty.sz] using hcella 1 (by decide)
    have e2 : wo.cell? ⟨b, o + k * 6 + 2, none⟩ = some (.slice Aa02 (List.length (x.2)[k].1.2.2.1) ca02) := by simpa [Ty.sz] using hcella 2 (by decide)
    have e3 : wo.cell? ⟨b, o + k * 6 + 3, none⟩ = some (.int .i64 (x.2)[k].1.2.2.2.1) := by simpa [Ty.sz] using hcella 3 (by decide)
    have e4 : wo.cell? ⟨b, o + k * 6 + 4, none⟩ = some (.int .i64 (x.2)[k].1.2.2.2.2) := by simpa [Ty.sz] using hcella 4 (by decide)
    have e5 : wo.cell? ⟨b, o + k * 6 + 5, none⟩ = some (.int .i64 (x.2)[k].2) := by simpa [Ty.sz] using hcella 5 (by decide)
    clear hcella hla
    obtain ⟨b2, o2, dsb, rfl, hlb, hcellb, hrdb⟩ := Ty.rd_at (Ty.rd_below hw yg1) hlt2
    have hrdb' := hrdb
    obtain ⟨Ab00, cb00, Ab01, cb01, Ab02, cb02, rfl, bg0, bg1⟩ := rd_CacheEntry hrdb
    have f0 : wo.cell? ⟨b2, o2 + k * 6, none⟩ = some (.slice Ab00 (List.length (y.2)[k].1.1) cb00) := by simpa [Ty.sz] using hcellb 0 (by decide)
    have f1 : wo.cell? ⟨b2, o2 + k * 6 + 1, none⟩ = some (.slice Ab01 (List.length (y.2)[k].1.2.1) cb01) := by simpa [Ty.sz] using hcellb 1 (by decide)
    have f2 : wo.cell? ⟨b2, o2 + k * 6 + 2, none⟩ = some (.slice Ab02 (List.length (y.2)[k].1.2.2.1) cb02) := by simpa [Ty.sz] using hcellb 2 (by decide)
    have f3 : wo.cell? ⟨b2, o2 + k * 6 + 3, none⟩ = some (.int .i64 (y.2)[k].1.2.2.2.1) := by simpa [Ty.sz] using hcellb 3 (by decide)
    have f4 : wo.cell? ⟨b2, o2 + k * 6 + 4, none⟩ = some (.int .i64 (y.2)[k].1.2.2.2.2) := by simpa [Ty.sz] using hcellb 4 (by decide)
    have f5 : wo.cell? ⟨b2, o2 + k * 6 + 5, none⟩ = some (.int .i64 (y.2)[k].2) := by simpa [Ty.sz] using hcellb 5 (by decide)
    clear hcellb hlb
    have hlb : b < wo.heap.size := World.block_lt_of_cell? wo _ e0
    have hlb2 : b2 < wo.heap.size := World.block_lt_of_cell? wo _ f0
    have HH : Hid (∀ V, Below wo.heap.size wo V → Below WX.heap.size WX V ∧ V.cell? ⟨w.heap.size, 0, none⟩ = some (.int .i64 x.1) ∧ V.cell? ⟨w.heap.size, 1, none⟩ = some (.slice (some ⟨b, o, none⟩) (List.length x.2) cx1) ∧ V.cell? ⟨w.heap.size + 1, 0, none⟩ = some (.int .i64 y.1) ∧ V.cell? ⟨w.heap.size + 1, 1, none⟩ = some (.slice (some ⟨b2, o2, none⟩) (List.length y.2) cy1) ∧ V.cell? ⟨b, o + k * 6, none⟩ = some (.slice Aa00 (List.length (x.2)[k].1.1) ca00) ∧ V.cell? ⟨b, o + k * 6 + 1, none⟩ = some (.slice Aa01 (List.length (x.2)[k].1.2.1) ca01) ∧ V.cell? ⟨b, o + k * 6 + 2, none⟩ = some (.slice Aa02 (List.length (x.2)[k].1.2.2.1) ca02) ∧ V.cell? ⟨b, o + k * 6 + 3, none⟩ = some (.int .i64 (x.2)[k].1.2.2.2.1) ∧ V.cell? ⟨b, o + k * 6 + 4, none⟩ = some (.int .i64 (x.2)[k].1.2.2.2.2) ∧ V.cell? ⟨b, o + k * 6 + 5, none⟩ = some (.int .i64 (x.2)[k].2) ∧ V.cell? ⟨b2, o2 + k * 6, none⟩ = some (.slice Ab00 (List.length (y.2)[k].1.1) cb00) ∧ V.cell? ⟨b2, o2 + k * 6 + 1, none⟩ = some (.slice Ab01 (List.length (y.2)[k].1.2.1) cb01) ∧ V.cell? ⟨b2, o2 + k * 6 + 2, none⟩ = some (.slice Ab02 (List.length (y.2)[k].1.2.2.1) cb02) ∧ V.cell? ⟨b2, o2 + k * 6 + 3, none⟩ = some (.int .i64 (y.2)[k].1.2.2.2.1) ∧ V.cell? ⟨b2, o2 + k * 6 + 4, none⟩ = some (.int .i64 (y.2)[k].1.2.2.2.2) ∧ V.cell? ⟨b2, o2 + k * 6 + 5, none⟩ = some (.int .i64 (y.2)[k].2)) := fun V hW => ⟨bel_trans hb hW, (HC.out _ (bel_trans hb hW)).1, (HC.out _ (bel_trans hb hW)).2.1, (HC.out _ (bel_trans hb hW)).2.2.1, (HC.out _ (bel_trans hb hW)).2.2.2, (hW.cell hlb).trans e0, (hW.cell hlb).trans e1, (hW.cell hlb).trans e2, (hW.cell hlb).trans e3, (hW.cell hlb).trans e4, (hW.cell hlb).trans e5, (hW.cell hlb2).trans f0, (hW.cell hlb2).trans f1, (hW.cell hlb2).trans f2, (hW.cell hlb2).trans f3, (hW.cell hlb2).trans f4, (hW.cell hlb2).trans f5⟩
    have hv0 : Below wo.heap.size wo wo := Below.refl _ _
    have i0 : (0 : Int) ≤ (k : Int) := by omega
    have i1 : (k : Int) < (List.length x.2 : Int) := by omega
    have i2 : (k : Int) < (List.length y.2 : Int) := by omega
    have HNE : Hid (¬ (x.2)[k] = (y.2)[k] → F = false) := fun hne => by rw [HF.out, HQ5.out]; simp only [Bool.true_and, decide_eq_false_iff_not]; exact fun h => hne (by simp only [h])
    have sa := entry_bulk (Ty.bulk_at s0e hlt)
    have sb := entry_bulk (Ty.bulk_at s1e hlt2)
    cases q3 : ((x.2)[k].2 != (y.2)[k].2)
    rotate_left
    · have HZ := Lib.hid (HNE.out (fun h => by rw [h] at q3; simp at q3))
      go_wp2_with fail
      refine wp_region_noPanic ?_
      refine wp_region_held_drew (S := (fun W => Below WX.heap.size WX W ∧ W.cell? ⟨w.heap.size, 0, none⟩ = some (.int .i64 x.1) ∧ W.cell? ⟨w.heap.size, 1, none⟩ = some (.slice (some ⟨b, o, none⟩) (List.length x.2) cx1) ∧ W.cell? ⟨w.heap.size + 1, 0, none⟩ = some (.int .i64 y.1) ∧ W.cell? ⟨w.heap.size + 1, 1, none⟩ = some (.slice (some ⟨b2, o2, none⟩) (List.length y.2) cy1) ∧ W.cell? ⟨b, o + k * 6, none⟩ = some (.slice Aa00 (List.length (x.2)[k].1.1) ca00) ∧ W.cell? ⟨b, o + k * 6 + 1, none⟩ = some (.slice Aa01 (List.length (x.2)[k].1.2.1) ca01) ∧ W.cell? ⟨b, o + k * 6 + 2, none⟩ = some (.slice Aa02 (List.length (x.2)[k].1.2.2.1) ca02) ∧ W.cell? ⟨b, o + k * 6 + 3, none⟩ = some (.int .i64 (x.2)[k].1.2.2.2.1) ∧ W.cell? ⟨b, o + k * 6 + 4, none⟩ = some (.int .i64 (x.2)[k].1.2.2.2.2) ∧ W.cell? ⟨b, o + k * 6 + 5, none⟩ = some (.int .i64 (x.2)[k].2) ∧ W.cell? ⟨b2, o2 + k * 6, none⟩ = some (.slice Ab00 (List.length (y.2)[k].1.1) cb00) ∧ W.cell? ⟨b2, o2 + k * 6 + 1, none⟩ = some (.slice Ab01 (List.length (y.2)[k].1.2.1) cb01) ∧ W.cell? ⟨b2, o2 + k * 6 + 2, none⟩ = some (.slice Ab02 (List.length (y.2)[k].1.2.2.1) cb02) ∧ W.cell? ⟨b2, o2 + k * 6 + 3, none⟩ = some (.int .i64 (y.2)[k].1.2.2.2.1) ∧ W.cell? ⟨b2, o2 + k * 6 + 4, none⟩ = some (.int .i64 (y.2)[k].1.2.2.2.2) ∧ W.cell? ⟨b2, o2 + k * 6 + 5, none⟩ = some (.int .i64 (y.2)[k].2))) (by kernel_rfl) ?_ (fun hHeld => ?_)
      · exact HH.out _ (by (repeat' (first | (with_reducible exact Below.refl _ _) | (with_reducible assumption) | (with_reducible refine bel_set ?_ (by (try dsimp only); omega) _) | (with_reducible refine bel_alloc ?_ _) | (with_reducible refine bel_drewN ?_ _) | (with_reducible refine bel_drew ?_) | (with_reducible refine bel_trans ?_ (by assumption)))); done)
      refine tk 0 (opN rfl) (by kernel_rfl) (by rfl) (by (intro w hSw; (try dsimp only at hSw); go_simp; first | done | with_reducible rfl)) (by assumption) ?_
      try simp only [Act.put, List.setIfInBounds_toArray, List.set_cons_zero, List.set_cons_succ]
      refine tk 1 (opN rfl) (by kernel_rfl) (by rfl) (by (intro w hSw; (try dsimp only at hSw); go_simp; first | done | with_reducible rfl)) (by assumption) ?_
      try simp only [Act.put, List.setIfInBounds_toArray, List.set_cons_zero, List.set_cons_succ]
      refine tk 2 (opN rfl) (by kernel_rfl) (by rfl) (by (intro w hSw; (try dsimp only at hSw); go_simp; first | done | with_reducible rfl)) (by assumption) ?_
      try simp only [Act.put, List.setIfInBounds_toArray, List.set_cons_zero, List.set_cons_succ]
      refine tk 3 (opN rfl) (by kernel_rfl) (by rfl) (by (intro w hSw; (try dsimp only at hSw); go_simp; first | done | with_reducible rfl)) (by assumption) ?_
      try simp only [Act.put, List.setIfInBounds_toArray, List.set_cons_zero, List.set_cons_succ]
      refine tk 4 (opN rfl) (by kernel_rfl) (by rfl) (by (intro w hSw; (try dsimp only at hSw); go_simp; first | done | with_reducible rfl)) (by assumption) ?_
      try simp only [Act.put, List.setIfInBounds_toArray, List.set_cons_zero, List.set_cons_succ]
      refine tk 5 (opN rfl) (by kernel_rfl) (by rfl) (by (intro w hSw; (try dsimp only at hSw); go_simp; first | done | with_reducible rfl)) (by assumption) ?_
      try simp only [Act.put, List.setIfInBounds_toArray, List.set_cons_zero, List.set_cons_succ]
      refine tk 6 (opN rfl) (by kernel_rfl) (by rfl) (by (intro w hSw; (try dsimp only at hSw); go_simp; first | done | with_reducible rfl)) (by assumption) ?_
      try simp only [Act.put, List.setIfInBounds_toArray, List.set_cons_zero, List.set_cons_succ]
      refine tk 7 (opN rfl) (by kernel_rfl) (by rfl) (by (intro w hSw; (try dsimp only at hSw); go_simp; first | done | with_reducible rfl)) (by assumption) ?_
      try simp only [Act.put, List.setIfInBounds_toArray, List.set_cons_zero, List.set_cons_succ]
      refine tk 8 (opN rfl) (by kernel_rfl) (by rfl) (by (intro w hSw; (try dsimp only at hSw); go_simp; first | done | with_reducible rfl)) (by assumption) ?_
      try simp only [Act.put, List.setIfInBounds_toArray, List.set_cons_zero, List.set_cons_succ]
      refine tk 9 (opN rfl) (by kernel_rfl) (by rfl) (by (intro w hSw; (try dsimp only at hSw); go_simp; first | done | with_reducible rfl)) (by assumption) ?_
      try simp only [Act.put, List.setIfInBounds_toArray, List.set_cons_zero, List.set_cons_succ]
      refine tk 10 (opN rfl) (by kernel_rfl) (by rfl) (by (intro w hSw; (try dsimp only at hSw); go_simp; first | done | with_reducible rfl)) (by assumption) ?_
      try simp only [Act.put, List.setIfInBounds_toArray, List.set_cons_zero, List.set_cons_succ]
      refine tk 11 (opN rfl) (by kernel_rfl) (by rfl) (by (intro w hSw; (try dsimp only at hSw); go_simp; first | done | with_reducible rfl)) (by assumption) ?_
      try simp only [Act.put, List.setIfInBounds_toArray, List.set_cons_zero, List.set_cons_succ]
      refine tk 12 (opN rfl) (by kernel_rfl) (by rfl) (by (intro w hSw; (try dsimp only at hSw); go_simp; first | done | with_reducible rfl)) (by assumption) ?_
      try simp only [Act.put, List.setIfInBounds_toArray, List.set_cons_zero, List.set_cons_succ]
      refine tk 13 (opN rfl) (by kernel_rfl) (by rfl) (by (intro w hSw; (try dsimp only at hSw); go_simp; first | done | with_reducible rfl)) (by assumption) ?_
      try simp only [Act.put, List.setIfInBounds_toArray, List.set_cons_zero, List.set_cons_succ]
      refine sk 14 (opN rfl) (by kernel_rfl) (by rfl) (by assumption) ?_
      try simp only [Act.put, List.setIfInBounds_toArray, List.set_cons_zero, List.set_cons_succ]
      refine sk 15 (opN rfl) (by kernel_rfl) (by rfl) (by assumption) ?_
      try simp only [Act.put, List.setIfInBounds_toArray, List.set_cons_zero, List.set_cons_succ]
      refine sk 16 (opN rfl) (by kernel_rfl) (by rfl) (by assumption) ?_
      try simp only [Act.put, List.setIfInBounds_toArray, List.set_cons_zero, List.set_cons_succ]
      refine sk 17 (opN rfl) (by kernel_rfl) (by rfl) (by assumption) ?_
      try simp only [Act.put, List.setIfInBounds_toArray, List.set_cons_zero, List.set_cons_succ]
      refine sk 18 (opN rfl) (by kernel_rfl) (by rfl) (by assumption) ?_
      try simp only [Act.put, List.setIfInBounds_toArray, List.set_cons_zero, List.set_cons_succ]
      refine sk 19 (opN rfl) (by kernel_rfl) (by rfl) (by assumption) ?_
      try simp only [Act.put, List.setIfInBounds_toArray, List.set_cons_zero, List.set_cons_succ]
      refine sk 20 (opN rfl) (by kernel_rfl) (by rfl) (by assumption) ?_
      try simp only [Act.put, List.setIfInBounds_toArray, List.set_cons_zero, List.set_cons_succ]
      refine sk 21 (opN rfl) (by kernel_rfl) (by rfl) (by assumption) ?_
      try simp only [Act.put, List.setIfInBounds_toArray, List.set_cons_zero, List.set_cons_succ]
      refine sk 22 (opN rfl) (by kernel_rfl) (by rfl) (by assumption) ?_
      try simp only [Act.put, List.setIfInBounds_toArray, List.set_cons_zero, List.set_cons_succ]
      refine sk 23 (opN rfl) (by kernel_rfl) (by rfl) (by assumption) ?_
      try simp only [Act.put, List.setIfInBounds_toArray, List.set_cons_zero, List.set_cons_succ]
      refine sk 24 (opN rfl) (by kernel_rfl) (by rfl) (by assumption) ?_
      try simp only [Act.put, List.setIfInBounds_toArray, List.set_cons_zero, List.set_cons_succ]
      refine sk 25 (opN rfl) (by kernel_rfl) (by rfl) (by assumption) ?_
      try simp only [Act.put, List.setIfInBounds_toArray, List.set_cons_zero, List.set_cons_succ]
      refine sk 26 (opN rfl) (by kernel_rfl) (by rfl) (by assumption) ?_
      try simp only [Act.put, List.setIfInBounds_toArray, List.set_cons_zero, List.set_cons_succ]
      refine sk 27 (opN rfl) (by kernel_rfl) (by rfl) (by assumption) ?_
      try simp only [Act.put, List.setIfInBounds_toArray, List.set_cons_zero, List.set_cons_succ]
      refine tk 28 (opN rfl) (by kernel_rfl) (by rfl) (by (intro w hSw; (try dsimp only at hSw); go_simp; first | done | with_reducible rfl)) (by assumption) ?_
      try simp only [Act.put, List.setIfInBounds_toArray, List.set_cons_zero, List.set_cons_succ]
      refine wpAnyH_done (by kernel_rfl) ?_ _
      refine NoPanic.normal ?_
      go_wp2
      go_ret
      exact ⟨ret_bool (by rw [HZ.out]), bel_trans hw (by (repeat' (first | (with_reducible exact Below.refl _ _) | (with_reducible assumption) | (with_reducible refine bel_set ?_ (by (try dsimp only); omega) _) | (with_reducible refine bel_alloc ?_ _) | (with_reducible refine bel_drewN ?_ _) | (with_reducible refine bel_drew ?_) | (with_reducible refine bel_trans ?_ (by assumption)))); done)⟩
    have HQ3 : Hid ((x.2)[k].2 = (y.2)[k].2) := by show _ = _; simpa using q3
    go_wp2_with fail
    refine wp_region_noPanic ?_
    refine wp_region_held_drew (S := (fun W => Below WX.heap.size WX W ∧ W.cell? ⟨w.heap.size, 0, none⟩ = some (.int .i64 x.1) ∧ W.cell? ⟨w.heap.size, 1, none⟩ = some (.slice (some ⟨b, o, none⟩) (List.length x.2) cx1) ∧ W.cell? ⟨w.heap.size + 1, 0, none⟩ = some (.int .i64 y.1) ∧ W.cell? ⟨w.heap.size + 1, 1, none⟩ = some (.slice (some ⟨b2, o2, none⟩) (List.length y.2) cy1) ∧ W.cell? ⟨b, o + k * 6, none⟩ = some (.slice Aa00 (List.length (x.2)[k].1.1) ca00) ∧ W.cell? ⟨b, o + k * 6 + 1, none⟩ = some (.slice Aa01 (List.length (x.2)[k].1.2.1) ca01) ∧ W.cell? ⟨b, o + k * 6 + 2, none⟩ = some (.slice Aa02 (List.length (x.2)[k].1.2.2.1) ca02) ∧ W.cell? ⟨b, o + k * 6 + 3, none⟩ = some (.int .i64 (x.2)[k].1.2.2.2.1) ∧ W.cell? ⟨b, o + k * 6 + 4, none⟩ = some (.int .i64 (x.2)[k].1.2.2.2.2) ∧ W.cell? ⟨b, o + k * 6 + 5, none⟩ = some (.int .i64 (x.2)[k].2) ∧ W.cell? ⟨b2, o2 + k * 6, none⟩ = some (.slice Ab00 (List.length (y.2)[k].1.1) cb00) ∧ W.cell? ⟨b2, o2 + k * 6 + 1, none⟩ = some (.slice Ab01 (List.length (y.2)[k].1.2.1) cb01) ∧ W.cell? ⟨b2, o2 + k * 6 + 2, none⟩ = some (.slice Ab02 (List.length (y.2)[k].1.2.2.1) cb02) ∧ W.cell? ⟨b2, o2 + k * 6 + 3, none⟩ = some (.int .i64 (y.2)[k].1.2.2.2.1) ∧ W.cell? ⟨b2, o2 + k * 6 + 4, none⟩ = some (.int .i64 (y.2)[k].1.2.2.2.2) ∧ W.cell? ⟨b2, o2 + k * 6 + 5, none⟩ = some (.int .i64 (y.2)[k].2))) (by kernel_rfl) ?_ (fun hHeld => ?_)
    · exact HH.out _ (by (repeat' (first | (with_reducible exact Below.refl _ _) | (with_reducible assumption) | (with_reducible refine bel_set ?_ (by (try dsimp only); omega) _) | (with_reducible refine bel_alloc ?_ _) | (with_reducible refine bel_drewN ?_ _) | (with_reducible refine bel_drew ?_) | (with_reducible refine bel_trans ?_ (by assumption)))); done)
    refine tk 0 (opN rfl) (by kernel_rfl) (by rfl) (by (intro w hSw; (try dsimp only at hSw); go_simp; first | done | with_reducible rfl)) (by assumption) ?_
    try simp only [Act.put, List.setIfInBounds_toArray, List.set_cons_zero, List.set_cons_succ]
    refine tk 1 (opN rfl) (by kernel_rfl) (by rfl) (by (intro w hSw; (try dsimp only at hSw); go_simp; first | done | with_reducible rfl)) (by assumption) ?_
    try simp only [Act.put, List.setIfInBounds_toArray, List.set_cons_zero, List.set_cons_succ]
    refine tk 2 (opN rfl) (by kernel_rfl) (by rfl) (by (intro w hSw; (try dsimp only at hSw); go_simp; first | done | with_reducible rfl)) (by assumption) ?_
    try simp only [Act.put, List.setIfInBounds_toArray, List.set_cons_zero, List.set_cons_succ]
    refine tk 3 (opN rfl) (by kernel_rfl) (by rfl) (by (intro w hSw; (try dsimp only at hSw); go_simp; first | done | with_reducible rfl)) (by assumption) ?_
    try simp only [Act.put, List.setIfInBounds_toArray, List.set_cons_zero, List.set_cons_succ]
    refine tk 4 (opN rfl) (by kernel_rfl) (by rfl) (by (intro w hSw; (try dsimp only at hSw); go_simp; first | done | with_reducible rfl)) (by assumption) ?_
    try simp only [Act.put, List.setIfInBounds_toArray, List.set_cons_zero, List.set_cons_succ]
    refine tk 5 (opN rfl) (by kernel_rfl) (by rfl) (by (intro w hSw; (try dsimp only at hSw); go_simp; first | done | with_reducible rfl)) (by assumption) ?_
    try simp only [Act.put, List.setIfInBounds_toArray, List.set_cons_zero, List.set_cons_succ]
    refine tk 6 (opN rfl) (by kernel_rfl) (by rfl) (by (intro w hSw; (try dsimp only at hSw); go_simp; first | done | with_reducible rfl)) (by assumption) ?_
    try simp only [Act.put, List.setIfInBounds_toArray, List.set_cons_zero, List.set_cons_succ]
    refine tk 7 (opN rfl) (by kernel_rfl) (by rfl) (by (intro w hSw; (try dsimp only at hSw); go_simp; first | done | with_reducible rfl)) (by assumption) ?_
    try simp only [Act.put, List.setIfInBounds_toArray, List.set_cons_zero, List.set_cons_succ]
    refine tk 8 (opN rfl) (by kernel_rfl) (by rfl) (by (intro w hSw; (try dsimp only at hSw); go_simp; first | done | with_reducible rfl)) (by assumption) ?_
    try simp only [Act.put, List.setIfInBounds_toArray, List.set_cons_zero, List.set_cons_succ]
    refine tk 9 (opN rfl) (by kernel_rfl) (by rfl) (by (intro w hSw; (try dsimp only at hSw); go_simp; first | done | with_reducible rfl)) (by assumption) ?_
    try simp only [Act.put, List.setIfInBounds_toArray, List.set_cons_zero, List.set_cons_succ]
    refine tk 10 (opN rfl) (by kernel_rfl) (by rfl) (by (intro w hSw; (try dsimp only at hSw); go_simp; first | done | with_reducible rfl)) (by assumption) ?_
    try simp only [Act.put, List.setIfInBounds_toArray, List.set_cons_zero, List.set_cons_succ]
    refine tk 11 (opN rfl) (by kernel_rfl) (by rfl) (by (intro w hSw; (try dsimp only at hSw); go_simp; first | done | with_reducible rfl)) (by assumption) ?_
    try simp only [Act.put, List.setIfInBounds_toArray, List.set_cons_zero, List.set_cons_succ]
    refine tk 12 (opN rfl) (by kernel_rfl) (by rfl) (by (intro w hSw; (try dsimp only at hSw); go_simp; first | done | with_reducible rfl)) (by assumption) ?_
    try simp only [Act.put, List.setIfInBounds_toArray, List.set_cons_zero, List.set_cons_succ]
    refine tk 13 (opN rfl) (by kernel_rfl) (by rfl) (by (intro w hSw; (try dsimp only at hSw); go_simp; first | done | with_reducible rfl)) (by assumption) ?_
    try simp only [Act.put, List.setIfInBounds_toArray, List.set_cons_zero, List.set_cons_succ]
    refine tk 14 (opN rfl) (by kernel_rfl) (by rfl) (by (intro w hSw; (try dsimp only at hSw); go_simp; first | done | with_reducible rfl)) (by assumption) ?_
    try simp only [Act.put, List.setIfInBounds_toArray, List.set_cons_zero, List.set_cons_succ]
    refine tk 15 (opN rfl) (by kernel_rfl) (by rfl) (by (intro w hSw; (try dsimp only at hSw); go_simp; first | done | with_reducible rfl)) (by assumption) ?_
    try simp only [Act.put, List.setIfInBounds_toArray, List.set_cons_zero, List.set_cons_succ]
    refine tk 16 (opN rfl) (by kernel_rfl) (by rfl) (by (intro w hSw; (try dsimp only at hSw); go_simp; first | done | with_reducible rfl)) (by assumption) ?_
    try simp only [Act.put, List.setIfInBounds_toArray, List.set_cons_zero, List.set_cons_succ]
    refine tk 17 (opN rfl) (by kernel_rfl) (by rfl) (by (intro w hSw; (try dsimp only at hSw); go_simp; first | done | with_reducible rfl)) (by assumption) ?_
    try simp only [Act.put, List.setIfInBounds_toArray, List.set_cons_zero, List.set_cons_succ]
    refine tk 18 (opN rfl) (by kernel_rfl) (by rfl) (by (intro w hSw; (try dsimp only at hSw); go_simp; first | done | with_reducible rfl)) (by assumption) ?_
    try simp only [Act.put, List.setIfInBounds_toArray, List.set_cons_zero, List.set_cons_succ]
    refine tk 19 (opN rfl) (by kernel_rfl) (by rfl) (by (intro w hSw; (try dsimp only at hSw); go_simp; first | done | with_reducible rfl)) (by assumption) ?_
    try simp only [Act.put, List.setIfInBounds_toArray, List.set_cons_zero, List.set_cons_succ]
    refine tk 20 (opN rfl) (by kernel_rfl) (by rfl) (by (intro w hSw; (try dsimp only at hSw); go_simp; first | done | with_reducible rfl)) (by assumption) ?_
    try simp only [Act.put, List.setIfInBounds_toArray, List.set_cons_zero, List.set_cons_succ]
    refine tk 21 (opN rfl) (by kernel_rfl) (by rfl) (by (intro w hSw; (try dsimp only at hSw); go_simp; first | done | with_reducible rfl)) (by assumption) ?_
    try simp only [Act.put, List.setIfInBounds_toArray, List.set_cons_zero, List.set_cons_succ]
    refine tk 22 (opN rfl) (by kernel_rfl) (by rfl) (by (intro w hSw; (try dsimp only at hSw); go_simp; first | done | with_reducible rfl)) (by assumption) ?_
    try simp only [Act.put, List.setIfInBounds_toArray, List.set_cons_zero, List.set_cons_succ]
    refine tk 23 (opN rfl) (by kernel_rfl) (by rfl) (by (intro w hSw; (try dsimp only at hSw); go_simp; first | done | with_reducible rfl)) (by assumption) ?_
    try simp only [Act.put, List.setIfInBounds_toArray, List.set_cons_zero, List.set_cons_succ]
    refine tk 24 (opN rfl) (by kernel_rfl) (by rfl) (by (intro w hSw; (try dsimp only at hSw); go_simp; first | done | with_reducible rfl)) (by assumption) ?_
    try simp only [Act.put, List.setIfInBounds_toArray, List.set_cons_zero, List.set_cons_succ]
    refine tk 25 (opN rfl) (by kernel_rfl) (by rfl) (by (intro w hSw; (try dsimp only at hSw); go_simp; first | done | with_reducible rfl)) (by assumption) ?_
    try simp only [Act.put, List.setIfInBounds_toArray, List.set_cons_zero, List.set_cons_succ]
    refine wpAnyH_ready (rs := [26]) (by kernel_rfl) (by simp) ?_
    refine AllReadyH.cons (opN rfl) (fun K hK => ?_) AllReadyH.nil
    go_simp
    go_at_call 62
    refine (C_spec_EqualData _ _ _ _ _ (Ty.rd_below (by (repeat' (first | (with_reducible exact Below.refl _ _) | (with_reducible assumption) | (with_reducible refine bel_set ?_ (by (try dsimp only); omega) _) | (with_reducible refine bel_alloc ?_ _) | (with_reducible refine bel_drewN ?_ _) | (with_reducible refine bel_drew ?_) | (with_reducible refine bel_trans ?_ (by assumption)))); done) ag0) (Ty.rd_below (by (repeat' (first | (with_reducible exact Below.refl _ _) | (with_reducible assumption) | (with_reducible refine bel_set ?_ (by (try dsimp only); omega) _) | (with_reducible refine bel_alloc ?_ _) | (with_reducible refine bel_drewN ?_ _) | (with_reducible refine bel_drew ?_) | (with_reducible refine bel_trans ?_ (by assumption)))); done) bg0) sa sb).mono ?_
    rintro e w1 ⟨rfl, hb1⟩
    have hv1 : Below wo.heap.size wo w1 := (by (repeat' (first | (with_reducible exact Below.refl _ _) | (with_reducible assumption) | (with_reducible refine bel_set ?_ (by (try dsimp only); omega) _) | (with_reducible refine bel_alloc ?_ _) | (with_reducible refine bel_drewN ?_ _) | (with_reducible refine bel_drew ?_) | (with_reducible refine bel_trans ?_ (by assumption)))); done)
    refine hK.out _ _ ?_ (fun hHeld => ?_)
    · (try dsimp only)
      exact HH.out _ (by (repeat' (first | (with_reducible exact Below.refl _ _) | (with_reducible assumption) | (with_reducible refine bel_set ?_ (by (try dsimp only); omega) _) | (with_reducible refine bel_alloc ?_ _) | (with_reducible refine bel_drewN ?_ _) | (with_reducible refine bel_drew ?_) | (with_reducible refine bel_trans ?_ (by assumption)))); done)
    clear hK K
    try simp only [Act.put, List.setIfInBounds_toArray, List.set_cons_zero, List.set_cons_succ]
    cases q0 : f_EqualData (x.2)[k].1 (y.2)[k].1
    · have HZ := Lib.hid (HNE.out (fun h => by rw [data_eq] at q0; simp [h] at q0))
      refine tk 27 (opN rfl) (by kernel_rfl) (by rfl) (by (intro w hSw; (try dsimp only at hSw); go_simp; first | done | with_reducible rfl)) (by assumption) ?_
      try simp only [Act.put, List.setIfInBounds_toArray, List.set_cons_zero, List.set_cons_succ]
      refine tk 28 (opN rfl) (by kernel_rfl) (by rfl) (by (intro w hSw; (try dsimp only at hSw); go_simp; first | done | with_reducible rfl)) (by assumption) ?_
      try simp only [Act.put, List.setIfInBounds_toArray, List.set_cons_zero, List.set_cons_succ]
      refine wpAnyH_done (by kernel_rfl) ?_ _
      refine NoPanic.normal ?_
      go_wp2
      go_ret
      exact ⟨ret_bool (by rw [HZ.out]), bel_trans hw hv1⟩
    · have HE := Lib.hid (take_eq_succ hlt hlt2 HT.out (Prod.ext (by rw [data_eq] at q0; simpa using q0) HQ3.out))
      refine tk 27 (opN rfl) (by kernel_rfl) (by rfl) (by (intro w hSw; (try dsimp only at hSw); go_simp; first | done | with_reducible rfl)) (by assumption) ?_
      try simp only [Act.put, List.setIfInBounds_toArray, List.set_cons_zero, List.set_cons_succ]
      refine tk 28 (opN rfl) (by kernel_rfl) (by rfl) (by (intro w hSw; (try dsimp only at hSw); go_simp; first | done | with_reducible rfl)) (by assumption) ?_
      try simp only [Act.put, List.setIfInBounds_toArray, List.set_cons_zero, List.set_cons_succ]
      refine wpAnyH_done (by kernel_rfl) ?_ _
      refine NoPanic.normal ?_
      go_wp2
      go_roundw
      case rel => exact ⟨k + 1, by omega, by go_num, HE.out, bel_trans hb hv1⟩
      case measure => simp [intOf]; omega
end Go.Proofs.Ytemicfeiejfdkaa
