/-
  DERIVED. GIVEN WITH THE SEED: THE CARDS: each row of YtidnahocnhcoiaaDoorRows.lean that lists a variable, with what it lists TIED to the program's text (the seventh form; the later family's looks); each row that meets fmt, with fmt's text TOLD by the authors' own Lean function (tested against real Go, not proved from fmt's source: count such statements apart). THE CARD IS WHAT COUNTS. Prove the row's statement (the work); the ties are given (YtidnahocnhcoiaaDoorTie.lean); close each card by the builder's one call (the guide's Derived/Test/ToyasCard.lean, 'card_holds'). Laid BY PROGRAM, IN A SANDBOX (cutbox-door.mjs). By AI agents, Wed Nov 11 2026. No macro, syntax, notation, axiom, sorry.
-/
import Derived.Test.YtidnahocnhcoiaaDoorRows
import GoSem.ClaimSeven
namespace Go.Proofs.YtidnahocnhcoiaaDoor
namespace Rows

/-- THE TIED CARD OF 'laws.FnWants'. -/
def fnWantsCard : Claim7 := { stood := { row := fnWantsRow, standIns := [], harness := (true, "09843600236d5ae73938b4577d189655ed1f604487e54cf8d2f16774d705d1fa"), looks := false }, kinds := [], alts := [], laidByText := true, laidKinds := [.data, .data, .data], laidTests := true, laidLooks := .later }
def FnWantsCardSaid : Prop := Claim7.holds Tryd.pinned (.plain (OpenSpec.ofChange fnWantsSpec)) fnWantsCard

/-- THE SECOND FORM's CARD OF 'laws.FnWants'. -/
def fnWantsUptoCard : Claim7 := { stood := { row := fnWantsUptoRow, standIns := [], harness := (true, "09843600236d5ae73938b4577d189655ed1f604487e54cf8d2f16774d705d1fa"), looks := false }, kinds := [], alts := [], laidByText := true, laidKinds := [.data, .data, .data], laidTests := true, laidLooks := .later }
def FnWantsUptoCardSaid : Prop := Claim7.holds Tryd.pinned (.plain (OpenSpec.upto fnWantsSpec)) fnWantsUptoCard
end Rows
end Go.Proofs.YtidnahocnhcoiaaDoor
