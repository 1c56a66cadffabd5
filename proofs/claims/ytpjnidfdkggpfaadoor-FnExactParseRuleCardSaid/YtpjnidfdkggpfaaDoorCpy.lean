/- Copies of names and keys. -/
import Derived.Test.YtpjnidfdkggpfaaDoorByt
import Derived.Test.YtpjnidfdkggpfaaDoorHlp
import Derived.Test.YtpjnidfdkggpfaaDoorDrw
namespace Go.Proofs.YtpjnidfdkggpfaaDoor
open Go.RowKit
set_option linter.unusedVariables false
set_option linter.unusedSimpArgs false

end Go.Proofs.YtpjnidfdkggpfaaDoor
