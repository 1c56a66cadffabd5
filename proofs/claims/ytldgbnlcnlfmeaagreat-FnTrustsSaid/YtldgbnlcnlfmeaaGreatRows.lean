/-
  No cell of these rows narrows 'for every input' (looked for: loops, veiled, ifaces, maps, wideKeys, modest, calm, conditions, laid).
  DERIVED. THE GIVEN ROWS OF THIS SEAT. 3 by the template 'for every input the law returns true; each argument reads behind the call as it read before'; 0 by the template 'total and deterministic' (their statements: YtldgbnlcnlfmeaaGreatTotals.lean).
  GIVEN WITH THE SEED: the statements are not yours to turn. If you find one false, say at which input.
  Laid BY PROGRAM, IN A SANDBOX (cutbox-rows.mjs): the forced cells as the released guide's own fill.sh prints them over the translation 00ba4fba1dbcdc55… (all of the seat's roots in one cut). By AI agents, Wed Nov 11 2026. No macro, syntax, notation, axiom, sorry.
-/
import Derived.Test.YtldgbnlcnlfmeaaGreatChecked
import GoSem.Claim
import GoSem.ClaimJoined
import GoSem.ClaimMapViews
import Derived.JoinedTies
import Derived.KernelRfl
namespace Go.Proofs.YtldgbnlcnlfmeaaGreat
/- THE CELL 'sum', in the pinned program and in every row, IS THE sha256 OF THE DUMP (.gsa) THAT YtldgbnlcnlfmeaaGreatProg.lean LOADS. Nothing in Lean hashes anything: it is a label: what it is worth is what the hold of that sum in a sandbox is worth. -/
noncomputable def Tryz.pinned : Pinned := { name := "ytldgbnlcnlfmeaagreat", sum := "00ba4fba1dbcdc559573baaa2cca9d90d7b46c95f9a5974baa8e22e9b1ac4a90", checked := Tryz.checked }
namespace Rows
def none {H : Type} : Left H := { results := [], args := [] }

/-- 'laws.FnTrusts': WHATEVER THE INPUT: true; the input reads as it did. -/
def fnTrustsSpec : ChangeSpec := { name := "fnTrusts", fn := fun _ => fun
  | [d] => { results := [.lit (.bool true)], args := [d] }
  | _ => none }
def fnTrustsRow : OpenClaim := { program := "ytldgbnlcnlfmeaagreat", sum := "00ba4fba1dbcdc559573baaa2cca9d90d7b46c95f9a5974baa8e22e9b1ac4a90", func := "loop.example/g00507/laws.FnTrusts", spec := "fnTrusts", unfollowed := true, recurses := true, apart := false }
def FnTrustsSaid : Prop := fnTrustsRow.holds Tryz.pinned (OpenSpec.ofChange fnTrustsSpec)

/-- ITS FALSE NEIGHBOUR: 'it returns false'. Refute it at one input. -/
def fnTrustsWrong : ChangeSpec := { name := "fnTrusts", fn := fun _ => fun
  | [d] => { results := [.lit (.bool false)], args := [d] }
  | _ => none }
def FnTrustsWrongFalsely : Prop := fnTrustsRow.holds Tryz.pinned (OpenSpec.ofChange fnTrustsWrong)

/-- 'laws.FnForgers': WHATEVER THE INPUT: true; the input reads as it did. -/
def fnForgersSpec : ChangeSpec := { name := "fnForgers", fn := fun _ => fun
  | [d] => { results := [.lit (.bool true)], args := [d] }
  | _ => none }
def fnForgersRow : OpenClaim := { program := "ytldgbnlcnlfmeaagreat", sum := "00ba4fba1dbcdc559573baaa2cca9d90d7b46c95f9a5974baa8e22e9b1ac4a90", func := "loop.example/g00507/laws.FnForgers", spec := "fnForgers", unfollowed := true, recurses := true, apart := false }
def FnForgersSaid : Prop := fnForgersRow.holds Tryz.pinned (OpenSpec.ofChange fnForgersSpec)

/-- ITS FALSE NEIGHBOUR: 'it returns false'. Refute it at one input. -/
def fnForgersWrong : ChangeSpec := { name := "fnForgers", fn := fun _ => fun
  | [d] => { results := [.lit (.bool false)], args := [d] }
  | _ => none }
def FnForgersWrongFalsely : Prop := fnForgersRow.holds Tryz.pinned (OpenSpec.ofChange fnForgersWrong)

/-- 'laws.FnKeys': WHATEVER THE INPUT: true; the input reads as it did. -/
def fnKeysSpec : ChangeSpec := { name := "fnKeys", fn := fun _ => fun
  | [d] => { results := [.lit (.bool true)], args := [d] }
  | _ => none }
def fnKeysRow : OpenClaim := { program := "ytldgbnlcnlfmeaagreat", sum := "00ba4fba1dbcdc559573baaa2cca9d90d7b46c95f9a5974baa8e22e9b1ac4a90", func := "loop.example/g00507/laws.FnKeys", spec := "fnKeys", inPlace := ["internal/abi.NoEscape", "internal/bytealg.MakeNoZero"], unfollowed := true, recurses := true, apart := false }
def FnKeysSaid : Prop := fnKeysRow.holds Tryz.pinned (OpenSpec.ofChange fnKeysSpec)

/-- ITS FALSE NEIGHBOUR: 'it returns false'. Refute it at one input. -/
def fnKeysWrong : ChangeSpec := { name := "fnKeys", fn := fun _ => fun
  | [d] => { results := [.lit (.bool false)], args := [d] }
  | _ => none }
def FnKeysWrongFalsely : Prop := fnKeysRow.holds Tryz.pinned (OpenSpec.ofChange fnKeysWrong)

/- THE SECOND FORM. 'bulk': how many values and letters a reading holds, each counted each time it is reached (what is shared counts as often as it is met; a slice's spare places count too). A statement '..UptoSaid' is the law's where the arguments, and the package variables that the reading takes, are together of bulk at most 1048576: NARROWER than '..Said'. Prove '..Said' where nothing that the law and all that it calls make is longer than what came in: it says more and counts as full. Else prove '..UptoSaid'. A law counts once. -/
mutual
def uptoBulk {H : Type} : DataW H → Nat
  | .lit (.string bytes) => bytes.length + 1
  | .lit _ => 1
  | .nil => 1
  | .ptr d => uptoBulk d + 1
  | .slice elems spare => uptoBulkAll elems + uptoBulkAll spare + 1
  | .agg parts => uptoBulkAll parts + 1
  | .iface _ d => uptoBulk d + 1
  | .map entries => uptoBulkEntries entries + 1
  | .held _ => 1
def uptoBulkAll {H : Type} : List (DataW H) → Nat
  | [] => 0
  | d :: r => uptoBulk d + uptoBulkAll r
def uptoBulkEntries {H : Type} : List (Lit × DataW H) → Nat
  | [] => 0
  | x :: r => uptoBulkEntry x + uptoBulkEntries r
def uptoBulkEntry {H : Type} : Lit × DataW H → Nat
  | (.string bytes, d) => bytes.length + uptoBulk d + 1
  | (_, d) => uptoBulk d + 1
 end
def uptoSmall : (H : Type) → List (DataW H) → Bool := fun _ ds => decide (uptoBulkAll ds ≤ 1048576)
def OpenSpec.upto (s : _root_.Go.ChangeSpec) : _root_.Go.OpenSpec := { _root_.Go.OpenSpec.ofChange s with cond := some uptoSmall }

/-- 'laws.FnTrusts', WHERE WHAT IT READS IS OF BULK AT MOST 1048576: true; the input reads as it did. -/
def fnTrustsUptoRow : OpenClaim := { program := "ytldgbnlcnlfmeaagreat", sum := "00ba4fba1dbcdc559573baaa2cca9d90d7b46c95f9a5974baa8e22e9b1ac4a90", func := "loop.example/g00507/laws.FnTrusts", spec := "fnTrusts", unfollowed := true, recurses := true, apart := false, narrowed := true }
def FnTrustsUptoSaid : Prop := fnTrustsUptoRow.holds Tryz.pinned (OpenSpec.upto fnTrustsSpec)

/-- 'laws.FnForgers', WHERE WHAT IT READS IS OF BULK AT MOST 1048576: true; the input reads as it did. -/
def fnForgersUptoRow : OpenClaim := { program := "ytldgbnlcnlfmeaagreat", sum := "00ba4fba1dbcdc559573baaa2cca9d90d7b46c95f9a5974baa8e22e9b1ac4a90", func := "loop.example/g00507/laws.FnForgers", spec := "fnForgers", unfollowed := true, recurses := true, apart := false, narrowed := true }
def FnForgersUptoSaid : Prop := fnForgersUptoRow.holds Tryz.pinned (OpenSpec.upto fnForgersSpec)

/-- 'laws.FnKeys', WHERE WHAT IT READS IS OF BULK AT MOST 1048576: true; the input reads as it did. -/
def fnKeysUptoRow : OpenClaim := { program := "ytldgbnlcnlfmeaagreat", sum := "00ba4fba1dbcdc559573baaa2cca9d90d7b46c95f9a5974baa8e22e9b1ac4a90", func := "loop.example/g00507/laws.FnKeys", spec := "fnKeys", inPlace := ["internal/abi.NoEscape", "internal/bytealg.MakeNoZero"], unfollowed := true, recurses := true, apart := false, narrowed := true }
def FnKeysUptoSaid : Prop := fnKeysUptoRow.holds Tryz.pinned (OpenSpec.upto fnKeysSpec)

end Rows
end Go.Proofs.YtldgbnlcnlfmeaaGreat
