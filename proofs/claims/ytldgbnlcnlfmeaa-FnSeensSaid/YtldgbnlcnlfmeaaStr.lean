/- Slices of strings: their sizes, copies, comparisons. -/
import Derived.Test.YtldgbnlcnlfmeaaRows
import Derived.Test.YtldgbnlcnlfmeaaBase
namespace Go.Proofs.Ytldgbnlcnlfmeaa
open Go.RowKit
set_option linter.unusedVariables false
set_option linter.unusedSimpArgs false

theorem info_str : (Try.prog.info? 9).map (fun i => (i.zero, i.size, i.bytes)) = some (some (vS []), 1, 16) := by kernel_rfl

theorem info_Byte : (Try.prog.info? 5).map (fun i => (i.zero, i.size, i.bytes)) = some (some (.int .u8 0), 1, 1) := by kernel_rfl
end Go.Proofs.Ytldgbnlcnlfmeaa
