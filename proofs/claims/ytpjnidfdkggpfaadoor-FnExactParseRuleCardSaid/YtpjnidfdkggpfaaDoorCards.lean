/-
  DERIVED. GIVEN WITH THE SEED: THE CARDS: each row of YtpjnidfdkggpfaaDoorRows.lean that lists a variable, with what it lists TIED to the program's text (the seventh form; the later family's looks); each row that meets fmt, with fmt's text TOLD by the authors' own Lean function (tested against real Go, not proved from fmt's source: count such statements apart). THE CARD IS WHAT COUNTS. Prove the row's statement (the work); the ties are given (YtpjnidfdkggpfaaDoorTie.lean); close each card by the builder's one call (the guide's Derived/Test/ToyasCard.lean, 'card_holds'). Laid BY PROGRAM, IN A SANDBOX (cutbox-door.mjs). By AI agents, Wed Nov 11 2026. No macro, syntax, notation, axiom, sorry.
-/
import Derived.Test.YtpjnidfdkggpfaaDoorRows
import GoSem.ClaimSeven
namespace Go.Proofs.YtpjnidfdkggpfaaDoor
namespace Rows

/-- THE TIED CARD OF 'laws.FnExactFormatInterest'. -/
def fnExactFormatInterestCard : Claim7 := { stood := { row := fnExactFormatInterestRow, standIns := [], harness := (true, "acf338cefbe9a90a20922da9f76eb67dc15586b338ae57f061ad135370063633"), looks := false }, kinds := [], alts := [], laidByText := true, laidKinds := [.data, .data, .data], laidTests := true, laidLooks := .later }
def FnExactFormatInterestCardSaid : Prop := Claim7.holds Tryd.pinned (.plain (OpenSpec.ofChange fnExactFormatInterestSpec)) fnExactFormatInterestCard

/-- THE TIED CARD OF 'laws.FnExactParseRule'. -/
def fnExactParseRuleCard : Claim7 := { stood := { row := fnExactParseRuleRow, standIns := [], harness := (true, "acf338cefbe9a90a20922da9f76eb67dc15586b338ae57f061ad135370063633"), looks := false }, kinds := [], alts := [], laidByText := true, laidKinds := [.data, .pinned], laidTests := true, laidLooks := .later }
def FnExactParseRuleCardSaid : Prop := Claim7.holds Tryd.pinned (.plain (OpenSpec.ofChange fnExactParseRuleSpec)) fnExactParseRuleCard

/-- THE SECOND FORM's CARD OF 'laws.FnExactFormatInterest'. -/
def fnExactFormatInterestUptoCard : Claim7 := { stood := { row := fnExactFormatInterestUptoRow, standIns := [], harness := (true, "acf338cefbe9a90a20922da9f76eb67dc15586b338ae57f061ad135370063633"), looks := false }, kinds := [], alts := [], laidByText := true, laidKinds := [.data, .data, .data], laidTests := true, laidLooks := .later }
def FnExactFormatInterestUptoCardSaid : Prop := Claim7.holds Tryd.pinned (.plain (OpenSpec.upto fnExactFormatInterestSpec)) fnExactFormatInterestUptoCard

/-- THE SECOND FORM's CARD OF 'laws.FnExactParseRule'. -/
def fnExactParseRuleUptoCard : Claim7 := { stood := { row := fnExactParseRuleUptoRow, standIns := [], harness := (true, "acf338cefbe9a90a20922da9f76eb67dc15586b338ae57f061ad135370063633"), looks := false }, kinds := [], alts := [], laidByText := true, laidKinds := [.data, .pinned], laidTests := true, laidLooks := .later }
def FnExactParseRuleUptoCardSaid : Prop := Claim7.holds Tryd.pinned (.plain (OpenSpec.upto fnExactParseRuleSpec)) fnExactParseRuleUptoCard
end Rows
end Go.Proofs.YtpjnidfdkggpfaaDoor
