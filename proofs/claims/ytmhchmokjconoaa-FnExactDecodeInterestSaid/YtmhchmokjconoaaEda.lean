/- Data as bytes. Printed by gen6.py. -/
import Derived.Test.YtmhchmokjconoaaSig
import Derived.Test.YtmhchmokjconoaaKey
namespace Go.Proofs.Ytmhchmokjconoaa
open Go.RowKit
set_option linter.unusedVariables false
set_option linter.unusedSimpArgs false

theorem appendBytes_len (b s : List UInt8) : (f_AppendBytes b s).length ≤ b.length + s.length + 6 := by
  have := appendVarint_len b s.length
  unfold f_AppendBytes; rw [List.length_append]; omega
def f_EncodeData (x : tData.D) : List UInt8 := if f_ValidData x then f_AppendName (f_AppendBytes (f_AppendName [] x.1) x.2.1) x.2.2.1 ++ f_EncodeInts [x.2.2.2.1, x.2.2.2.2] else []
theorem encData_len {x : tData.D} (s0 : Ty.bulk tData x ≤ 1048576) : (f_EncodeData x).length ≤ 1060000 := by
  have h0 := content_len s0
  have h1 := appendName_len [] x.1
  have h2 := appendBytes_len (f_AppendName [] x.1) x.2.1
  have h3 := appendName_len (f_AppendBytes (f_AppendName [] x.1) x.2.1) x.2.2.1
  have h4 := encodeInts_len [x.2.2.2.1, x.2.2.2.2]
  simp only [List.length_nil, List.length_cons] at h1 h4
  unfold f_EncodeData
  split
  · rw [List.length_append]; omega
  · simp
theorem N_EncodeData {x : tData.D} (s0 : Ty.bulk tData x ≤ 1048576) : Ty.cnt (.sl .byte) (f_EncodeData x) ≤ 100000000000 := cnt_bytes _ (Nat.le_trans (encData_len s0) (by decide))
theorem rd_lit2' {w W : World} {te : TypeId} {g : Nat} {n m : Int} (hg : g = w.heap.size) (hn : -9223372036854775808 ≤ n ∧ n ≤ 9223372036854775807) (hm : -9223372036854775808 ≤ m ∧ m ≤ 9223372036854775807) (hb : Below (w.alloc (.cells #[.int .i64 n, .int .i64 m] te)).heap.size (w.alloc (.cells #[.int .i64 n, .int .i64 m] te)) W) :
    (Ty.sl .int).rd W [.slice (some ⟨g, 0, none⟩) 2 2] [n, m] := by
  subst hg; exact Ty.rd_below hb ((Row.lit2 flatI w te n m (okI hn.1 hn.2) (okI hm.1 hm.2) (Nat.le_refl _)).rd (by rw [World.size_alloc]; omega))
end Go.Proofs.Ytmhchmokjconoaa
