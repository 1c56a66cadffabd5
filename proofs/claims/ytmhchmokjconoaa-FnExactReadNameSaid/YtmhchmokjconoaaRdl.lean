/- ReadName as the law asks for it. -/
import Derived.Test.YtmhchmokjconoaaRdn
import Derived.Test.YtmhchmokjconoaaDda
namespace Go.Proofs.Ytmhchmokjconoaa
open Go.RowKit
set_option linter.unusedVariables false

def f0_ReadName (b : List UInt8) (a : Int) : List (List UInt8) := rn0 (readName b a)
def f1_ReadName (b : List UInt8) (a : Int) : Int := rn1 (readName b a)
def f2_ReadName (b : List UInt8) (a : Int) : Bool := (readName b a).isSome
theorem N_ReadName {b : List UInt8} {a : Int} (s0 : Ty.bulk (.sl .byte) b ≤ 1048576) : Ty.cntv (.sl .str) (f0_ReadName b a) ≤ 100000000000 := by
  refine cntv_bd (t := .sl .str) (B := 1048576) ?_ (by decide)
  unfold f0_ReadName
  cases h : readName b a with
  | none => decide
  | some r => have := (name_bulk (readName_bd h).1).1; show Ty.bulk (.sl .str) r.1 ≤ _; omega
theorem S_impl_ReadName (w : World) (v : Value) (b : List UInt8) (a : Int) (h : (Ty.sl .byte).rd w [v] b) (s0 : Ty.bulk (.sl .byte) b ≤ 1048576) (hi : -9223372036854775808 ≤ a ∧ a ≤ 9223372036854775807) :
    Calls Try.prog 38 #[v, .int .i64 a] w (RetAgg3 w (.sl .str) (f0_ReadName b a) (.int .i64 (f1_ReadName b a)) (.bool (f2_ReadName b a))) :=
  C_impl_ReadName w v b a h hi (Nat.le_trans (Ty.bulk_len s0) (by decide))
theorem S_spec_ReadName (w : World) (v : Value) (b : List UInt8) (a : Int) (h : (Ty.sl .byte).rd w [v] b) (s0 : Ty.bulk (.sl .byte) b ≤ 1048576) (hi : -9223372036854775808 ≤ a ∧ a ≤ 9223372036854775807) :
    Calls Try.prog 36 #[v, .int .i64 a] w (RetAgg3 w (.sl .str) (f0_ReadName b a) (.int .i64 (f1_ReadName b a)) (.bool (f2_ReadName b a))) :=
  C_spec_ReadName w v b a h hi (Nat.le_trans (Ty.bulk_len s0) (by decide))
end Go.Proofs.Ytmhchmokjconoaa
