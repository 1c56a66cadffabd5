/- Calls with several results. No program in sight. -/
import Derived.Test.YtldgbnlcnlfmeaaBase
namespace Go.Proofs.Ytldgbnlcnlfmeaa
open Go.RowKit
set_option linter.unusedVariables false
set_option linter.unusedSimpArgs false

/-- A slice in memory of its own, and a plain value. -/
def RetSl2 (w : World) (t : Ty) (x : List t.D) (u : Value) (e : Ending) (w' : World) : Prop :=
  ∃ A c fp, e = .returned (.tuple #[.slice A x.length c, u]) ∧ (Ty.sl t).ow w' [.slice A x.length c] x fp ∧ Fr w w' fp ∧ Below w.heap.size w w'
def RetSl3 (w : World) (t : Ty) (x : List t.D) (u u2 : Value) (e : Ending) (w' : World) : Prop :=
  ∃ A c fp, e = .returned (.tuple #[.slice A x.length c, u, u2]) ∧ (Ty.sl t).ow w' [.slice A x.length c] x fp ∧ Fr w w' fp ∧ Below w.heap.size w w'
/-- A struct, and a plain value. -/
def RetAgg2 (w : World) (t : Ty) (x : t.D) (u : Value) (e : Ending) (w' : World) : Prop :=
  ∃ cs fp, e = .returned (.tuple #[.agg cs.toArray, u]) ∧ t.ow w' cs x fp ∧ Fr w w' fp ∧ Below w.heap.size w w'
def RetAgg3 (w : World) (t : Ty) (x : t.D) (u u2 : Value) (e : Ending) (w' : World) : Prop :=
  ∃ cs fp, e = .returned (.tuple #[.agg cs.toArray, u, u2]) ∧ t.ow w' cs x fp ∧ Fr w w' fp ∧ Below w.heap.size w w'
theorem rd_ow_nil (w : World) (e : Ty) : (Ty.sl e).ow w [.slice none 0 0] [] [] := ⟨none, 0, rfl, Nat.le_refl _, ⟨Nat.zero_le _, fun _ => rfl⟩, by simp, .inl ⟨rfl, rfl⟩⟩
/-- A string. -/
def RetStr (w : World) (s : List UInt8) (e : Ending) (w' : World) : Prop := e = .returned (vS s) ∧ Below w.heap.size w w'
end Go.Proofs.Ytldgbnlcnlfmeaa
