/- Marks on slices of strings, bytes, integers. -/
import Derived.Test.YtldgbnlcnlfmeaaStr
import Derived.Test.YtldgbnlcnlfmeaaMkb
import Derived.Deep.RegionHeld3
namespace Go.Proofs.Ytldgbnlcnlfmeaa
open Go.RowKit
set_option linter.unusedVariables false
set_option linter.unusedSimpArgs false

theorem byte_val (n : Int) : [Value.int .u8 ((UInt8.ofNat (n % 256).toNat).toNat : Int)] = [.int .u8 (n % 256)] := by
  rw [UInt8.toNat_ofNat']
  congr 2
  omega
end Go.Proofs.Ytldgbnlcnlfmeaa
