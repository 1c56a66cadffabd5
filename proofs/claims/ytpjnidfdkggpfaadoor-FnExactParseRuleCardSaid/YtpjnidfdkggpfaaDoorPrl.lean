/- ParseRule as the law asks for it. -/
import Derived.Test.YtpjnidfdkggpfaaDoorPrs
import Derived.Test.YtpjnidfdkggpfaaDoorPss
namespace Go.Proofs.YtpjnidfdkggpfaaDoor
open Go.RowKit
set_option linter.unusedVariables false

def f0_ParseRule (s : List UInt8) : tRule.D := (prI s).1
def f1_ParseRule (s : List UInt8) : Bool := (prI s).2
theorem prI_bulk (s : List UInt8) : Ty.bulk tRule (prI s).1 ≤ 120 := by
  unfold prI
  split
  · have h1 := ppI_bulk (Lib.cut s [32, 60, 32]).1
    have h2 := ppI_bulk (Lib.cut s [32, 60, 32]).2.1
    exact Nat.add_le_add h1 h2
  · exact Nat.zero_le _
theorem N_ParseRule {s : List UInt8} (s0 : s.length ≤ 1048576) : Ty.cntv tRule (f0_ParseRule s) ≤ 100000000000 := cntv_bd (t := tRule) (prI_bulk s) (by decide)
theorem S_impl_ParseRule (w : World) (s : List UInt8) (s0 : s.length ≤ 1048576) (hm : MaxI w) :
    Calls Tryd.prog 11 #[vS s] w (RetAgg2 w tRule (f0_ParseRule s) (.bool (f1_ParseRule s))) :=
  C_impl_ParseRule w s (by omega) hm
theorem S_spec_ParseRule (w : World) (s : List UInt8) (s0 : s.length ≤ 1048576) :
    Calls Tryd.prog 10 #[vS s] w (RetAgg2 w tRule (f0_ParseRule s) (.bool (f1_ParseRule s))) := by
  have := C_spec_ParseRule w s (by omega)
  rw [pr_eq] at this
  exact this
end Go.Proofs.YtpjnidfdkggpfaaDoor
