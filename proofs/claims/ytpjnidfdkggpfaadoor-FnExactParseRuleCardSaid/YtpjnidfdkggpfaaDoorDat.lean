/- Data: the walks. -/
import Derived.Test.YtpjnidfdkggpfaaDoorNam
import Derived.Test.YtpjnidfdkggpfaaDoorMrk
import Derived.Test.YtpjnidfdkggpfaaDoorPure
import Derived.Deep.RegionHeld3
namespace Go.Proofs.YtpjnidfdkggpfaaDoor
open Go.RowKit
set_option linter.unusedVariables false
set_option linter.unusedSimpArgs false

def f_FreshAt (x : tData.D) (a : Int) : Bool := decide (a ≤ x.2.2.2.1)
def f_EqualData (x y : tData.D) : Bool := decide (x.1 = y.1) && (decide (x.2.1 = y.2.1) && (decide (x.2.2.1 = y.2.2.1) && (decide (x.2.2.2.1 = y.2.2.2.1) && decide (x.2.2.2.2 = y.2.2.2.2))))
end Go.Proofs.YtpjnidfdkggpfaaDoor
