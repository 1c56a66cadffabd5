/- slices.Grow and slices.Concat at numbers. -/
import Derived.Test.YtmhchmokjconoaaMac
import Derived.Lib.AppendZeros
namespace Go.Proofs.Ytmhchmokjconoaa
open Go.RowKit
set_option linter.unusedVariables false
set_option linter.unusedSimpArgs false

theorem flatten_take {α : Type} (xs : List (List α)) {k : Nat} (h : k < xs.length) : (xs.take (k + 1)).flatten = (xs.take k).flatten ++ xs[k] := by
  rw [List.take_succ_eq_append_getElem h, List.flatten_append]; simp
theorem sum_take_le {α : Type} (f : α → Nat) (xs : List α) (k : Nat) : ((xs.take k).map f).sum ≤ (xs.map f).sum := by
  rw [← List.take_append_drop k xs, List.map_append, List.sum_append, List.take_append_drop]; omega
theorem rd_lit3 (w : World) (te : TypeId) {e : Ty} (hz : e.sz = 1) (a b c : Value) (x y z : e.D) (h1 : e.rd w [a] x) (h2 : e.rd w [b] y) (h3 : e.rd w [c] z) :
    (Ty.sl e).rd (w.alloc (.cells #[a, b, c] te)) [.slice (some ⟨w.heap.size, 0, none⟩) 3 3] [x, y, z] := by
  have hb : Below w.heap.size w (w.alloc (.cells #[a, b, c] te)) := bel_alloc (Below.refl _ _) _
  refine ⟨_, _, rfl, Nat.le_refl _, ⟨by unfold maxLen; omega, fun h => by cases h⟩, by show 3 ≤ _; omega, fun _ => ⟨w.heap.size, 0, rfl, fun i hi => ?_⟩⟩
  have hi3 : i < 3 := hi
  have hc : ∀ j, (w.alloc (.cells #[a, b, c] te)).cell? ⟨w.heap.size, j, none⟩ = #[a, b, c][j]? := fun j => cell_new w te _ j rfl
  rcases i with _ | _ | _ | i
  · refine ⟨[a], by rw [hz]; rfl, fun j hj => ?_, Ty.rd_below hb h1⟩
    rw [hz] at hj
    obtain rfl : j = 0 := by omega
    rw [hc, hz]
    rfl
  · refine ⟨[b], by rw [hz]; rfl, fun j hj => ?_, Ty.rd_below hb h2⟩
    rw [hz] at hj
    obtain rfl : j = 0 := by omega
    rw [hc, hz]
    rfl
  · refine ⟨[c], by rw [hz]; rfl, fun j hj => ?_, Ty.rd_below hb h3⟩
    rw [hz] at hj
    obtain rfl : j = 0 := by omega
    rw [hc, hz]
    rfl
  · omega
end Go.Proofs.Ytmhchmokjconoaa
