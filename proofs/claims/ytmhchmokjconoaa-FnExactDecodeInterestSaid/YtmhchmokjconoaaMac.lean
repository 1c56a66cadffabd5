/- Secrets, codes. -/
import Derived.Test.YtmhchmokjconoaaInt
namespace Go.Proofs.Ytmhchmokjconoaa
open Go.RowKit
set_option linter.unusedVariables false
set_option linter.unusedSimpArgs false

def mac (s : Int) (l : List Int) : Int := digest (s :: (l ++ [s]))
end Go.Proofs.Ytmhchmokjconoaa
