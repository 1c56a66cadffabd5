/-
  No cell of these rows narrows 'for every input' (looked for: loops, veiled, ifaces, maps, wideKeys, modest, calm, conditions, laid).
  DERIVED. THE GIVEN ROWS OF THIS SEAT. 12 by the template 'for every input the law returns true; each argument reads behind the call as it read before'; 0 by the template 'total and deterministic' (their statements: YtamodpeeocmneaaTotals.lean).
  GIVEN WITH THE SEED: the statements are not yours to turn. If you find one false, say at which input.
  Laid BY PROGRAM, IN A SANDBOX (cutbox-rows.mjs): the forced cells as the released guide's own fill.sh prints them over the translation d90fea0b4c95ede4… (all of the seat's roots in one cut). By AI agents, Wed Nov 11 2026. No macro, syntax, notation, axiom, sorry.
-/
import Derived.Test.YtamodpeeocmneaaChecked
import GoSem.Claim
import GoSem.ClaimJoined
import GoSem.ClaimMapViews
import Derived.JoinedTies
import Derived.KernelRfl
namespace Go.Proofs.Ytamodpeeocmneaa
/- THE CELL 'sum', in the pinned program and in every row, IS THE sha256 OF THE DUMP (.gsa) THAT YtamodpeeocmneaaProg.lean LOADS. Nothing in Lean hashes anything: it is a label: what it is worth is what the hold of that sum in a sandbox is worth. -/
noncomputable def Try.pinned : Pinned := { name := "ytamodpeeocmneaa", sum := "d90fea0b4c95ede453a03fcbb9ae6e3ffcd89d7ee30191ea940059611a8d0c85", checked := Try.checked }
namespace Rows
def none {H : Type} : Left H := { results := [], args := [] }

/-- 'laws.FnExactSignData': WHATEVER THE INPUT: true; the input reads as it did. -/
def fnExactSignDataSpec : ChangeSpec := { name := "fnExactSignData", fn := fun _ => fun
  | [d1, d2] => { results := [.lit (.bool true)], args := [d1, d2] }
  | _ => none }
def fnExactSignDataRow : OpenClaim := { program := "ytamodpeeocmneaa", sum := "d90fea0b4c95ede453a03fcbb9ae6e3ffcd89d7ee30191ea940059611a8d0c85", func := "loop.example/g00507/laws.FnExactSignData", spec := "fnExactSignData", unfollowed := true, recurses := true, apart := false }
def FnExactSignDataSaid : Prop := fnExactSignDataRow.holds Try.pinned (OpenSpec.ofChange fnExactSignDataSpec)

/-- ITS FALSE NEIGHBOUR: 'it returns false'. Refute it at one input. -/
def fnExactSignDataWrong : ChangeSpec := { name := "fnExactSignData", fn := fun _ => fun
  | [d1, d2] => { results := [.lit (.bool false)], args := [d1, d2] }
  | _ => none }
def FnExactSignDataWrongFalsely : Prop := fnExactSignDataRow.holds Try.pinned (OpenSpec.ofChange fnExactSignDataWrong)

/-- 'laws.FnExactVerifySignature': WHATEVER THE INPUT: true; the input reads as it did. -/
def fnExactVerifySignatureSpec : ChangeSpec := { name := "fnExactVerifySignature", fn := fun _ => fun
  | [d1, d2] => { results := [.lit (.bool true)], args := [d1, d2] }
  | _ => none }
def fnExactVerifySignatureRow : OpenClaim := { program := "ytamodpeeocmneaa", sum := "d90fea0b4c95ede453a03fcbb9ae6e3ffcd89d7ee30191ea940059611a8d0c85", func := "loop.example/g00507/laws.FnExactVerifySignature", spec := "fnExactVerifySignature", unfollowed := true, recurses := true, apart := false }
def FnExactVerifySignatureSaid : Prop := fnExactVerifySignatureRow.holds Try.pinned (OpenSpec.ofChange fnExactVerifySignatureSpec)

/-- ITS FALSE NEIGHBOUR: 'it returns false'. Refute it at one input. -/
def fnExactVerifySignatureWrong : ChangeSpec := { name := "fnExactVerifySignature", fn := fun _ => fun
  | [d1, d2] => { results := [.lit (.bool false)], args := [d1, d2] }
  | _ => none }
def FnExactVerifySignatureWrongFalsely : Prop := fnExactVerifySignatureRow.holds Try.pinned (OpenSpec.ofChange fnExactVerifySignatureWrong)

/-- 'laws.FnExactMatchingKeys': WHATEVER THE INPUT: true; the input reads as it did. -/
def fnExactMatchingKeysSpec : ChangeSpec := { name := "fnExactMatchingKeys", fn := fun _ => fun
  | [d1, d2] => { results := [.lit (.bool true)], args := [d1, d2] }
  | _ => none }
def fnExactMatchingKeysRow : OpenClaim := { program := "ytamodpeeocmneaa", sum := "d90fea0b4c95ede453a03fcbb9ae6e3ffcd89d7ee30191ea940059611a8d0c85", func := "loop.example/g00507/laws.FnExactMatchingKeys", spec := "fnExactMatchingKeys", unfollowed := true, recurses := true, apart := false }
def FnExactMatchingKeysSaid : Prop := fnExactMatchingKeysRow.holds Try.pinned (OpenSpec.ofChange fnExactMatchingKeysSpec)

/-- ITS FALSE NEIGHBOUR: 'it returns false'. Refute it at one input. -/
def fnExactMatchingKeysWrong : ChangeSpec := { name := "fnExactMatchingKeys", fn := fun _ => fun
  | [d1, d2] => { results := [.lit (.bool false)], args := [d1, d2] }
  | _ => none }
def FnExactMatchingKeysWrongFalsely : Prop := fnExactMatchingKeysRow.holds Try.pinned (OpenSpec.ofChange fnExactMatchingKeysWrong)

/-- 'laws.FnExactSignWithKey': WHATEVER THE INPUT: true; the input reads as it did. -/
def fnExactSignWithKeySpec : ChangeSpec := { name := "fnExactSignWithKey", fn := fun _ => fun
  | [d1, d2, d3, d4, d5] => { results := [.lit (.bool true)], args := [d1, d2, d3, d4, d5] }
  | _ => none }
def fnExactSignWithKeyRow : OpenClaim := { program := "ytamodpeeocmneaa", sum := "d90fea0b4c95ede453a03fcbb9ae6e3ffcd89d7ee30191ea940059611a8d0c85", func := "loop.example/g00507/laws.FnExactSignWithKey", spec := "fnExactSignWithKey", unfollowed := true, recurses := true, apart := false }
def FnExactSignWithKeySaid : Prop := fnExactSignWithKeyRow.holds Try.pinned (OpenSpec.ofChange fnExactSignWithKeySpec)

/-- ITS FALSE NEIGHBOUR: 'it returns false'. Refute it at one input. -/
def fnExactSignWithKeyWrong : ChangeSpec := { name := "fnExactSignWithKey", fn := fun _ => fun
  | [d1, d2, d3, d4, d5] => { results := [.lit (.bool false)], args := [d1, d2, d3, d4, d5] }
  | _ => none }
def FnExactSignWithKeyWrongFalsely : Prop := fnExactSignWithKeyRow.holds Try.pinned (OpenSpec.ofChange fnExactSignWithKeyWrong)

/-- 'laws.FnExactIssueCertificate': WHATEVER THE INPUT: true; the input reads as it did. -/
def fnExactIssueCertificateSpec : ChangeSpec := { name := "fnExactIssueCertificate", fn := fun _ => fun
  | [d1, d2, d3, d4] => { results := [.lit (.bool true)], args := [d1, d2, d3, d4] }
  | _ => none }
def fnExactIssueCertificateRow : OpenClaim := { program := "ytamodpeeocmneaa", sum := "d90fea0b4c95ede453a03fcbb9ae6e3ffcd89d7ee30191ea940059611a8d0c85", func := "loop.example/g00507/laws.FnExactIssueCertificate", spec := "fnExactIssueCertificate", unfollowed := true, recurses := true, apart := false }
def FnExactIssueCertificateSaid : Prop := fnExactIssueCertificateRow.holds Try.pinned (OpenSpec.ofChange fnExactIssueCertificateSpec)

/-- ITS FALSE NEIGHBOUR: 'it returns false'. Refute it at one input. -/
def fnExactIssueCertificateWrong : ChangeSpec := { name := "fnExactIssueCertificate", fn := fun _ => fun
  | [d1, d2, d3, d4] => { results := [.lit (.bool false)], args := [d1, d2, d3, d4] }
  | _ => none }
def FnExactIssueCertificateWrongFalsely : Prop := fnExactIssueCertificateRow.holds Try.pinned (OpenSpec.ofChange fnExactIssueCertificateWrong)

/-- 'laws.FnExactAddSeenNonce': WHATEVER THE INPUT: true; the input reads as it did. -/
def fnExactAddSeenNonceSpec : ChangeSpec := { name := "fnExactAddSeenNonce", fn := fun _ => fun
  | [d1, d2, d3] => { results := [.lit (.bool true)], args := [d1, d2, d3] }
  | _ => none }
def fnExactAddSeenNonceRow : OpenClaim := { program := "ytamodpeeocmneaa", sum := "d90fea0b4c95ede453a03fcbb9ae6e3ffcd89d7ee30191ea940059611a8d0c85", func := "loop.example/g00507/laws.FnExactAddSeenNonce", spec := "fnExactAddSeenNonce", apart := false }
def FnExactAddSeenNonceSaid : Prop := fnExactAddSeenNonceRow.holds Try.pinned (OpenSpec.ofChange fnExactAddSeenNonceSpec)

/-- ITS FALSE NEIGHBOUR: 'it returns false'. Refute it at one input. -/
def fnExactAddSeenNonceWrong : ChangeSpec := { name := "fnExactAddSeenNonce", fn := fun _ => fun
  | [d1, d2, d3] => { results := [.lit (.bool false)], args := [d1, d2, d3] }
  | _ => none }
def FnExactAddSeenNonceWrongFalsely : Prop := fnExactAddSeenNonceRow.holds Try.pinned (OpenSpec.ofChange fnExactAddSeenNonceWrong)

/-- 'laws.FnExactHasPending': WHATEVER THE INPUT: true; the input reads as it did. -/
def fnExactHasPendingSpec : ChangeSpec := { name := "fnExactHasPending", fn := fun _ => fun
  | [d1, d2] => { results := [.lit (.bool true)], args := [d1, d2] }
  | _ => none }
def fnExactHasPendingRow : OpenClaim := { program := "ytamodpeeocmneaa", sum := "d90fea0b4c95ede453a03fcbb9ae6e3ffcd89d7ee30191ea940059611a8d0c85", func := "loop.example/g00507/laws.FnExactHasPending", spec := "fnExactHasPending", unfollowed := true, recurses := true, apart := false }
def FnExactHasPendingSaid : Prop := fnExactHasPendingRow.holds Try.pinned (OpenSpec.ofChange fnExactHasPendingSpec)

/-- ITS FALSE NEIGHBOUR: 'it returns false'. Refute it at one input. -/
def fnExactHasPendingWrong : ChangeSpec := { name := "fnExactHasPending", fn := fun _ => fun
  | [d1, d2] => { results := [.lit (.bool false)], args := [d1, d2] }
  | _ => none }
def FnExactHasPendingWrongFalsely : Prop := fnExactHasPendingRow.holds Try.pinned (OpenSpec.ofChange fnExactHasPendingWrong)

/-- 'laws.FnExactEqualPending': WHATEVER THE INPUT: true; the input reads as it did. -/
def fnExactEqualPendingSpec : ChangeSpec := { name := "fnExactEqualPending", fn := fun _ => fun
  | [d1, d2] => { results := [.lit (.bool true)], args := [d1, d2] }
  | _ => none }
def fnExactEqualPendingRow : OpenClaim := { program := "ytamodpeeocmneaa", sum := "d90fea0b4c95ede453a03fcbb9ae6e3ffcd89d7ee30191ea940059611a8d0c85", func := "loop.example/g00507/laws.FnExactEqualPending", spec := "fnExactEqualPending", unfollowed := true, recurses := true, apart := false }
def FnExactEqualPendingSaid : Prop := fnExactEqualPendingRow.holds Try.pinned (OpenSpec.ofChange fnExactEqualPendingSpec)

/-- ITS FALSE NEIGHBOUR: 'it returns false'. Refute it at one input. -/
def fnExactEqualPendingWrong : ChangeSpec := { name := "fnExactEqualPending", fn := fun _ => fun
  | [d1, d2] => { results := [.lit (.bool false)], args := [d1, d2] }
  | _ => none }
def FnExactEqualPendingWrongFalsely : Prop := fnExactEqualPendingRow.holds Try.pinned (OpenSpec.ofChange fnExactEqualPendingWrong)

/-- 'laws.FnExactLastSentAt': WHATEVER THE INPUT: true; the input reads as it did. -/
def fnExactLastSentAtSpec : ChangeSpec := { name := "fnExactLastSentAt", fn := fun _ => fun
  | [d1, d2] => { results := [.lit (.bool true)], args := [d1, d2] }
  | _ => none }
def fnExactLastSentAtRow : OpenClaim := { program := "ytamodpeeocmneaa", sum := "d90fea0b4c95ede453a03fcbb9ae6e3ffcd89d7ee30191ea940059611a8d0c85", func := "loop.example/g00507/laws.FnExactLastSentAt", spec := "fnExactLastSentAt", unfollowed := true, recurses := true, apart := false }
def FnExactLastSentAtSaid : Prop := fnExactLastSentAtRow.holds Try.pinned (OpenSpec.ofChange fnExactLastSentAtSpec)

/-- ITS FALSE NEIGHBOUR: 'it returns false'. Refute it at one input. -/
def fnExactLastSentAtWrong : ChangeSpec := { name := "fnExactLastSentAt", fn := fun _ => fun
  | [d1, d2] => { results := [.lit (.bool false)], args := [d1, d2] }
  | _ => none }
def FnExactLastSentAtWrongFalsely : Prop := fnExactLastSentAtRow.holds Try.pinned (OpenSpec.ofChange fnExactLastSentAtWrong)

/-- 'laws.FnExactValidPending': WHATEVER THE INPUT: true; the input reads as it did. -/
def fnExactValidPendingSpec : ChangeSpec := { name := "fnExactValidPending", fn := fun _ => fun
  | [d] => { results := [.lit (.bool true)], args := [d] }
  | _ => none }
def fnExactValidPendingRow : OpenClaim := { program := "ytamodpeeocmneaa", sum := "d90fea0b4c95ede453a03fcbb9ae6e3ffcd89d7ee30191ea940059611a8d0c85", func := "loop.example/g00507/laws.FnExactValidPending", spec := "fnExactValidPending", unfollowed := true, recurses := true, apart := false }
def FnExactValidPendingSaid : Prop := fnExactValidPendingRow.holds Try.pinned (OpenSpec.ofChange fnExactValidPendingSpec)

/-- ITS FALSE NEIGHBOUR: 'it returns false'. Refute it at one input. -/
def fnExactValidPendingWrong : ChangeSpec := { name := "fnExactValidPending", fn := fun _ => fun
  | [d] => { results := [.lit (.bool false)], args := [d] }
  | _ => none }
def FnExactValidPendingWrongFalsely : Prop := fnExactValidPendingRow.holds Try.pinned (OpenSpec.ofChange fnExactValidPendingWrong)

/-- 'laws.FnExactExpirePending': WHATEVER THE INPUT: true; the input reads as it did. -/
def fnExactExpirePendingSpec : ChangeSpec := { name := "fnExactExpirePending", fn := fun _ => fun
  | [d1, d2] => { results := [.lit (.bool true)], args := [d1, d2] }
  | _ => none }
def fnExactExpirePendingRow : OpenClaim := { program := "ytamodpeeocmneaa", sum := "d90fea0b4c95ede453a03fcbb9ae6e3ffcd89d7ee30191ea940059611a8d0c85", func := "loop.example/g00507/laws.FnExactExpirePending", spec := "fnExactExpirePending", unfollowed := true, recurses := true, apart := false }
def FnExactExpirePendingSaid : Prop := fnExactExpirePendingRow.holds Try.pinned (OpenSpec.ofChange fnExactExpirePendingSpec)

/-- ITS FALSE NEIGHBOUR: 'it returns false'. Refute it at one input. -/
def fnExactExpirePendingWrong : ChangeSpec := { name := "fnExactExpirePending", fn := fun _ => fun
  | [d1, d2] => { results := [.lit (.bool false)], args := [d1, d2] }
  | _ => none }
def FnExactExpirePendingWrongFalsely : Prop := fnExactExpirePendingRow.holds Try.pinned (OpenSpec.ofChange fnExactExpirePendingWrong)

/-- 'laws.FnExactIsLoop': WHATEVER THE INPUT: true; the input reads as it did. -/
def fnExactIsLoopSpec : ChangeSpec := { name := "fnExactIsLoop", fn := fun _ => fun
  | [d1, d2, d3] => { results := [.lit (.bool true)], args := [d1, d2, d3] }
  | _ => none }
def fnExactIsLoopRow : OpenClaim := { program := "ytamodpeeocmneaa", sum := "d90fea0b4c95ede453a03fcbb9ae6e3ffcd89d7ee30191ea940059611a8d0c85", func := "loop.example/g00507/laws.FnExactIsLoop", spec := "fnExactIsLoop", unfollowed := true, recurses := true, apart := false }
def FnExactIsLoopSaid : Prop := fnExactIsLoopRow.holds Try.pinned (OpenSpec.ofChange fnExactIsLoopSpec)

/-- ITS FALSE NEIGHBOUR: 'it returns false'. Refute it at one input. -/
def fnExactIsLoopWrong : ChangeSpec := { name := "fnExactIsLoop", fn := fun _ => fun
  | [d1, d2, d3] => { results := [.lit (.bool false)], args := [d1, d2, d3] }
  | _ => none }
def FnExactIsLoopWrongFalsely : Prop := fnExactIsLoopRow.holds Try.pinned (OpenSpec.ofChange fnExactIsLoopWrong)

/- THE SECOND FORM. 'bulk': how many values and letters a reading holds, each counted each time it is reached (what is shared counts as often as it is met; a slice's spare places count too). A statement '..UptoSaid' is the law's where the arguments, and the package variables that the reading takes, are together of bulk at most 1048576: NARROWER than '..Said'. Prove '..Said' where nothing that the law and all that it calls make is longer than what came in: it says more and counts as full. Else prove '..UptoSaid'. A law counts once. -/
mutual
def uptoBulk {H : Type} : DataW H → Nat
  | .lit (.string bytes) => bytes.length + 1
  | .lit _ => 1
  | .nil => 1
  | .ptr d => uptoBulk d + 1
  | .slice elems spare => uptoBulkAll elems + uptoBulkAll spare + 1
  | .agg parts => uptoBulkAll parts + 1
  | .iface _ d => uptoBulk d + 1
  | .map entries => uptoBulkEntries entries + 1
  | .held _ => 1
def uptoBulkAll {H : Type} : List (DataW H) → Nat
  | [] => 0
  | d :: r => uptoBulk d + uptoBulkAll r
def uptoBulkEntries {H : Type} : List (Lit × DataW H) → Nat
  | [] => 0
  | x :: r => uptoBulkEntry x + uptoBulkEntries r
def uptoBulkEntry {H : Type} : Lit × DataW H → Nat
  | (.string bytes, d) => bytes.length + uptoBulk d + 1
  | (_, d) => uptoBulk d + 1
 end
def uptoSmall : (H : Type) → List (DataW H) → Bool := fun _ ds => decide (uptoBulkAll ds ≤ 1048576)
def OpenSpec.upto (s : _root_.Go.ChangeSpec) : _root_.Go.OpenSpec := { _root_.Go.OpenSpec.ofChange s with cond := some uptoSmall }

/-- 'laws.FnExactSignData', WHERE WHAT IT READS IS OF BULK AT MOST 1048576: true; the input reads as it did. -/
def fnExactSignDataUptoRow : OpenClaim := { program := "ytamodpeeocmneaa", sum := "d90fea0b4c95ede453a03fcbb9ae6e3ffcd89d7ee30191ea940059611a8d0c85", func := "loop.example/g00507/laws.FnExactSignData", spec := "fnExactSignData", unfollowed := true, recurses := true, apart := false, narrowed := true }
def FnExactSignDataUptoSaid : Prop := fnExactSignDataUptoRow.holds Try.pinned (OpenSpec.upto fnExactSignDataSpec)

/-- 'laws.FnExactVerifySignature', WHERE WHAT IT READS IS OF BULK AT MOST 1048576: true; the input reads as it did. -/
def fnExactVerifySignatureUptoRow : OpenClaim := { program := "ytamodpeeocmneaa", sum := "d90fea0b4c95ede453a03fcbb9ae6e3ffcd89d7ee30191ea940059611a8d0c85", func := "loop.example/g00507/laws.FnExactVerifySignature", spec := "fnExactVerifySignature", unfollowed := true, recurses := true, apart := false, narrowed := true }
def FnExactVerifySignatureUptoSaid : Prop := fnExactVerifySignatureUptoRow.holds Try.pinned (OpenSpec.upto fnExactVerifySignatureSpec)

/-- 'laws.FnExactMatchingKeys', WHERE WHAT IT READS IS OF BULK AT MOST 1048576: true; the input reads as it did. -/
def fnExactMatchingKeysUptoRow : OpenClaim := { program := "ytamodpeeocmneaa", sum := "d90fea0b4c95ede453a03fcbb9ae6e3ffcd89d7ee30191ea940059611a8d0c85", func := "loop.example/g00507/laws.FnExactMatchingKeys", spec := "fnExactMatchingKeys", unfollowed := true, recurses := true, apart := false, narrowed := true }
def FnExactMatchingKeysUptoSaid : Prop := fnExactMatchingKeysUptoRow.holds Try.pinned (OpenSpec.upto fnExactMatchingKeysSpec)

/-- 'laws.FnExactSignWithKey', WHERE WHAT IT READS IS OF BULK AT MOST 1048576: true; the input reads as it did. -/
def fnExactSignWithKeyUptoRow : OpenClaim := { program := "ytamodpeeocmneaa", sum := "d90fea0b4c95ede453a03fcbb9ae6e3ffcd89d7ee30191ea940059611a8d0c85", func := "loop.example/g00507/laws.FnExactSignWithKey", spec := "fnExactSignWithKey", unfollowed := true, recurses := true, apart := false, narrowed := true }
def FnExactSignWithKeyUptoSaid : Prop := fnExactSignWithKeyUptoRow.holds Try.pinned (OpenSpec.upto fnExactSignWithKeySpec)

/-- 'laws.FnExactIssueCertificate', WHERE WHAT IT READS IS OF BULK AT MOST 1048576: true; the input reads as it did. -/
def fnExactIssueCertificateUptoRow : OpenClaim := { program := "ytamodpeeocmneaa", sum := "d90fea0b4c95ede453a03fcbb9ae6e3ffcd89d7ee30191ea940059611a8d0c85", func := "loop.example/g00507/laws.FnExactIssueCertificate", spec := "fnExactIssueCertificate", unfollowed := true, recurses := true, apart := false, narrowed := true }
def FnExactIssueCertificateUptoSaid : Prop := fnExactIssueCertificateUptoRow.holds Try.pinned (OpenSpec.upto fnExactIssueCertificateSpec)

/-- 'laws.FnExactAddSeenNonce', WHERE WHAT IT READS IS OF BULK AT MOST 1048576: true; the input reads as it did. -/
def fnExactAddSeenNonceUptoRow : OpenClaim := { program := "ytamodpeeocmneaa", sum := "d90fea0b4c95ede453a03fcbb9ae6e3ffcd89d7ee30191ea940059611a8d0c85", func := "loop.example/g00507/laws.FnExactAddSeenNonce", spec := "fnExactAddSeenNonce", apart := false, narrowed := true }
def FnExactAddSeenNonceUptoSaid : Prop := fnExactAddSeenNonceUptoRow.holds Try.pinned (OpenSpec.upto fnExactAddSeenNonceSpec)

/-- 'laws.FnExactHasPending', WHERE WHAT IT READS IS OF BULK AT MOST 1048576: true; the input reads as it did. -/
def fnExactHasPendingUptoRow : OpenClaim := { program := "ytamodpeeocmneaa", sum := "d90fea0b4c95ede453a03fcbb9ae6e3ffcd89d7ee30191ea940059611a8d0c85", func := "loop.example/g00507/laws.FnExactHasPending", spec := "fnExactHasPending", unfollowed := true, recurses := true, apart := false, narrowed := true }
def FnExactHasPendingUptoSaid : Prop := fnExactHasPendingUptoRow.holds Try.pinned (OpenSpec.upto fnExactHasPendingSpec)

/-- 'laws.FnExactEqualPending', WHERE WHAT IT READS IS OF BULK AT MOST 1048576: true; the input reads as it did. -/
def fnExactEqualPendingUptoRow : OpenClaim := { program := "ytamodpeeocmneaa", sum := "d90fea0b4c95ede453a03fcbb9ae6e3ffcd89d7ee30191ea940059611a8d0c85", func := "loop.example/g00507/laws.FnExactEqualPending", spec := "fnExactEqualPending", unfollowed := true, recurses := true, apart := false, narrowed := true }
def FnExactEqualPendingUptoSaid : Prop := fnExactEqualPendingUptoRow.holds Try.pinned (OpenSpec.upto fnExactEqualPendingSpec)

/-- 'laws.FnExactLastSentAt', WHERE WHAT IT READS IS OF BULK AT MOST 1048576: true; the input reads as it did. -/
def fnExactLastSentAtUptoRow : OpenClaim := { program := "ytamodpeeocmneaa", sum := "d90fea0b4c95ede453a03fcbb9ae6e3ffcd89d7ee30191ea940059611a8d0c85", func := "loop.example/g00507/laws.FnExactLastSentAt", spec := "fnExactLastSentAt", unfollowed := true, recurses := true, apart := false, narrowed := true }
def FnExactLastSentAtUptoSaid : Prop := fnExactLastSentAtUptoRow.holds Try.pinned (OpenSpec.upto fnExactLastSentAtSpec)

/-- 'laws.FnExactValidPending', WHERE WHAT IT READS IS OF BULK AT MOST 1048576: true; the input reads as it did. -/
def fnExactValidPendingUptoRow : OpenClaim := { program := "ytamodpeeocmneaa", sum := "d90fea0b4c95ede453a03fcbb9ae6e3ffcd89d7ee30191ea940059611a8d0c85", func := "loop.example/g00507/laws.FnExactValidPending", spec := "fnExactValidPending", unfollowed := true, recurses := true, apart := false, narrowed := true }
def FnExactValidPendingUptoSaid : Prop := fnExactValidPendingUptoRow.holds Try.pinned (OpenSpec.upto fnExactValidPendingSpec)

/-- 'laws.FnExactExpirePending', WHERE WHAT IT READS IS OF BULK AT MOST 1048576: true; the input reads as it did. -/
def fnExactExpirePendingUptoRow : OpenClaim := { program := "ytamodpeeocmneaa", sum := "d90fea0b4c95ede453a03fcbb9ae6e3ffcd89d7ee30191ea940059611a8d0c85", func := "loop.example/g00507/laws.FnExactExpirePending", spec := "fnExactExpirePending", unfollowed := true, recurses := true, apart := false, narrowed := true }
def FnExactExpirePendingUptoSaid : Prop := fnExactExpirePendingUptoRow.holds Try.pinned (OpenSpec.upto fnExactExpirePendingSpec)

/-- 'laws.FnExactIsLoop', WHERE WHAT IT READS IS OF BULK AT MOST 1048576: true; the input reads as it did. -/
def fnExactIsLoopUptoRow : OpenClaim := { program := "ytamodpeeocmneaa", sum := "d90fea0b4c95ede453a03fcbb9ae6e3ffcd89d7ee30191ea940059611a8d0c85", func := "loop.example/g00507/laws.FnExactIsLoop", spec := "fnExactIsLoop", unfollowed := true, recurses := true, apart := false, narrowed := true }
def FnExactIsLoopUptoSaid : Prop := fnExactIsLoopUptoRow.holds Try.pinned (OpenSpec.upto fnExactIsLoopSpec)

end Rows
end Go.Proofs.Ytamodpeeocmneaa
