/- Comparing names. -/
import Derived.Test.YtpjnidfdkggpfaaDoorHlp
import Derived.StillTailTactics
import Derived.WalkLawsBesides
namespace Go.Proofs.YtpjnidfdkggpfaaDoor
open Go.RowKit
set_option linter.unusedVariables false
set_option linter.unusedSimpArgs false

theorem bytesLess_irrefl : ∀ l : List UInt8, Op.bytesLess l l = false
  | [] => rfl
  | a :: l => by simp [Op.bytesLess, bytesLess_irrefl l]

end Go.Proofs.YtpjnidfdkggpfaaDoor
