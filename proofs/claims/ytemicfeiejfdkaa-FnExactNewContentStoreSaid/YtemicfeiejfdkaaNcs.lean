/- New content stores. Printed by gen27.py. -/
import Derived.Test.YtemicfeiejfdkaaVal
import Derived.Test.YtemicfeiejfdkaaRet
import Derived.Test.YtemicfeiejfdkaaNb
import Derived.Test.YtemicfeiejfdkaaHlp
import Derived.Test.YtemicfeiejfdkaaMrk
namespace Go.Proofs.Ytemicfeiejfdkaa
open Go.RowKit
set_option linter.unusedVariables false
set_option linter.unusedSimpArgs false

def f_NewContentStore (a : Int) : tContentStore.D := (if inR a 0 8 = true then a else 0, [])
theorem N_NewContentStore {a : Int} : Ty.cntv tContentStore (f_NewContentStore a) ≤ 100000000000 := by
  refine cntv_bd (t := tContentStore) (B := 0) ?_ (by decide)
  show 0 + 0 ≤ 0; omega
theorem ow_store0 (w : World) (n : Int) (h : -9223372036854775808 ≤ n ∧ n ≤ 9223372036854775807) : tContentStore.ow w [.int .i64 n, .slice none 0 0] (n, []) ([] ++ []) := ⟨[_], [_], [], [], rfl, rfl, ⟨⟨rfl, h⟩, rfl⟩, rd_ow_nil w tCacheEntry⟩
set_option maxHeartbeats 1000000 in
theorem C_spec_NewContentStore (w : World) (a : Int) (i0 : -9223372036854775808 ≤ a ∧ a ≤ 9223372036854775807) :
    Calls Try.prog 14 #[.int .i64 a] w (RetAgg w tContentStore (f_NewContentStore a)) := by
  cases q : inR a 0 8
  all_goals
    have HF : Hid (f_NewContentStore a = _) := Lib.hid (show f_NewContentStore a = (if inR a 0 8 = true then a else 0, []) from rfl)
    rw [q] at HF
    go_enter Try.func14, Try.ntmps14
    go_wp2_with fail
    refine (C_spec_l1In _ _ _ _).mono ?_
    rw [q]
    rintro e w1 ⟨rfl, hw1⟩
    subst hw1
    go_wp2
  · refine bodyPost_ret (v := .agg #[.int .i64 0, .slice none 0 0]) (by simp [results, Try.results14, go_sem]) rfl ?_
    rw [HF.out]
    exact ⟨_, _, rfl, ow_store0 _ 0 (by decide), FrI.nil _ _, (by repeat' (first | (with_reducible exact Below.refl _ _) | (with_reducible assumption) | (with_reducible refine bel_set ?_ (by (try dsimp only); omega) _) | (with_reducible refine bel_alloc ?_ _) | (with_reducible refine bel_drewN ?_ _) | (with_reducible refine bel_drew ?_)))⟩
  · refine bodyPost_ret (v := .agg #[.int .i64 a, .slice none 0 0]) (by simp [results, Try.results14, go_sem]) rfl ?_
    rw [HF.out]
    exact ⟨_, _, rfl, ow_store0 _ a i0, FrI.nil _ _, (by repeat' (first | (with_reducible exact Below.refl _ _) | (with_reducible assumption) | (with_reducible refine bel_set ?_ (by (try dsimp only); omega) _) | (with_reducible refine bel_alloc ?_ _) | (with_reducible refine bel_drewN ?_ _) | (with_reducible refine bel_drew ?_)))⟩
set_option maxHeartbeats 1000000 in
theorem C_impl_NewContentStore (w : World) (a : Int) (i0 : -9223372036854775808 ≤ a ∧ a ≤ 9223372036854775807) :
    Calls Try.prog 15 #[.int .i64 a] w (RetAgg w tContentStore (f_NewContentStore a)) := by
  cases q : inR a 0 8
  all_goals
    have HF : Hid (f_NewContentStore a = _) := Lib.hid (show f_NewContentStore a = (if inR a 0 8 = true then a else 0, []) from rfl)
    rw [q] at HF
    go_enter Try.func15, Try.ntmps15
    go_wp2_with fail
    refine (C_impl_InRange _ _ _ _).mono ?_
    rw [q]
    rintro e w1 ⟨rfl, hw1⟩
    subst hw1
    go_wp2
  · refine bodyPost_ret (v := .agg #[.int .i64 0, .slice none 0 0]) (by simp [results, Try.results15, go_sem]) rfl ?_
    rw [HF.out]
    exact ⟨_, _, rfl, ow_store0 _ 0 (by decide), FrI.nil _ _, (by repeat' (first | (with_reducible exact Below.refl _ _) | (with_reducible assumption) | (with_reducible refine bel_set ?_ (by (try dsimp only); omega) _) | (with_reducible refine bel_alloc ?_ _) | (with_reducible refine bel_drewN ?_ _) | (with_reducible refine bel_drew ?_)))⟩
  · refine bodyPost_ret (v := .agg #[.int .i64 a, .slice none 0 0]) (by simp [results, Try.results15, go_sem]) rfl ?_
    rw [HF.out]
    exact ⟨_, _, rfl, ow_store0 _ a i0, FrI.nil _ _, (by repeat' (first | (with_reducible exact Below.refl _ _) | (with_reducible assumption) | (with_reducible refine bel_set ?_ (by (try dsimp only); omega) _) | (with_reducible refine bel_alloc ?_ _) | (with_reducible refine bel_drewN ?_ _) | (with_reducible refine bel_drew ?_)))⟩
end Go.Proofs.Ytemicfeiejfdkaa
