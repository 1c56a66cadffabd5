/- Copies of seen nonces. -/
import Derived.Test.YtpjnidfdkggpfaaDoorCpy
namespace Go.Proofs.YtpjnidfdkggpfaaDoor
open Go.RowKit
set_option linter.unusedVariables false
set_option linter.unusedSimpArgs false

theorem ow_SeenNonce_mk {w : World} {A : Option Addr} {c : Nat} {x : Ty.D tSeenNonce} {f : List Nat} (h : (Ty.sl .str).ow w [.slice A (List.length x.1) c] x.1 f) (b : -9223372036854775808 ≤ x.2 ∧ x.2 ≤ 9223372036854775807) :
    Ty.ow w tSeenNonce [.slice A (List.length x.1) c, .int .i64 x.2] x f := ⟨[_], [_], f, [], rfl, (List.append_nil _).symm, h, ⟨rfl, b⟩, rfl⟩
end Go.Proofs.YtpjnidfdkggpfaaDoor
