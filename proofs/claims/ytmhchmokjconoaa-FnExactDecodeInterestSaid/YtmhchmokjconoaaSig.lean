/- What is signed of data. Printed by gen6.py. -/
import Derived.Test.YtmhchmokjconoaaApn
import Derived.Test.YtmhchmokjconoaaCat
import Derived.Test.YtmhchmokjconoaaKdg
import Derived.Test.YtmhchmokjconoaaStp
import Derived.Test.YtmhchmokjconoaaNb
import Derived.Deep.QuietTactic
import Derived.BigQuiet
namespace Go.Proofs.Ytmhchmokjconoaa
open Go.RowKit
set_option linter.unusedVariables false
set_option linter.unusedSimpArgs false

theorem appendName_len (b : List UInt8) (n : List (List UInt8)) : (f_AppendName b n).length ≤ b.length + 90 := by
  unfold f_AppendName
  split
  · rename_i h
    have hv := validName_parts h
    have h1 := foldBytes_len n (f_AppendVarint b n.length) hv.2
    have h2 := appendVarint_len b n.length
    have h3 := hv.1
    unfold nameBytes
    omega
  · omega
theorem bti_len (x : List UInt8) : (bti x).length = x.length + 1 := pre_len _ _
def f_SignedPortion (x : tData.D) : List Int := [bti (f_AppendName [] x.1), bti x.2.1, bti (f_AppendName [] x.2.2.1)].flatten ++ [x.2.2.2.1]
theorem content_len {x : tData.D} (s0 : Ty.bulk tData x ≤ 1048576) : x.2.1.length ≤ 1048576 := by
  have h1 : Ty.bulk (.sl .str) x.1 + (Ty.bulk (.sl .byte) x.2.1 + (Ty.bulk (.sl .str) x.2.2.1 + (0 + 0))) ≤ 1048576 := s0
  exact Ty.bulk_len (e := .byte) (x := x.2.1) (n := 1048576) (by omega)
theorem signed_len {x : tData.D} (s0 : Ty.bulk tData x ≤ 1048576) : (f_SignedPortion x).length ≤ 1050000 := by
  have h1 := content_len s0
  have h2 := appendName_len [] x.1
  have h3 := appendName_len [] x.2.2.1
  have h4 : (f_SignedPortion x).length = (bti (f_AppendName [] x.1)).length + ((bti x.2.1).length + (bti (f_AppendName [] x.2.2.1)).length) + 1 := by
    unfold f_SignedPortion; simp; omega
  rw [h4, bti_len, bti_len, bti_len]
  simp only [List.length_nil] at h2 h3
  omega
theorem N_SignedPortion {x : tData.D} (s0 : Ty.bulk tData x ≤ 1048576) : Ty.cnt (.sl .int) (f_SignedPortion x) ≤ 100000000000 := by
  refine cnt_bd (t := .sl .int) (B := 3000000) ?_ (by decide)
  have := signed_len s0
  rw [Ty.bulk_flat (fun _ => rfl)]; omega
theorem rd_lit3' {w W : World} {te : TypeId} {e : Ty} (hz : e.sz = 1) {g : Nat} {a b c : Value} {x y z : e.D} (hg : g = w.heap.size) (h1 : e.rd w [a] x) (h2 : e.rd w [b] y) (h3 : e.rd w [c] z) (hb : Below (w.alloc (.cells #[a, b, c] te)).heap.size (w.alloc (.cells #[a, b, c] te)) W) :
    (Ty.sl e).rd W [.slice (some ⟨g, 0, none⟩) 3 3] [x, y, z] := by
  subst hg; exact Ty.rd_below hb (rd_lit3 w te hz a b c x y z h1 h2 h3)
theorem lit1_cell {w W : World} {te : TypeId} {g : Nat} {n : Int} (hg : g = w.heap.size) (hb : Below (w.alloc (.cells #[.int .i64 n] te)).heap.size (w.alloc (.cells #[.int .i64 n] te)) W) : W.cell? ⟨g, 0, none⟩ = some (.int .i64 n) := by
  subst hg; rw [hb.cell (p := ⟨w.heap.size, 0, none⟩) (by rw [World.size_alloc]; simp)]; exact cell_new w _ _ 0 rfl
theorem rd_cell1 {W : World} {g : Nat} {n : Int} (ho : -9223372036854775808 ≤ n ∧ n ≤ 9223372036854775807) (h : W.cell? ⟨g, 0, none⟩ = some (.int .i64 n)) : (Ty.sl .int).rd W [.slice (some ⟨g, 0, none⟩) 1 1] [n] := by
  refine ⟨_, 1, rfl, Nat.le_refl _, ⟨by unfold maxLen; omega, fun h => by cases h⟩, by simp, fun _ => ⟨g, 0, rfl, fun i hi => ?_⟩⟩
  obtain rfl : i = 0 := by simpa using hi
  refine ⟨[.int .i64 n], rfl, fun j hj => ?_, ⟨rfl, ho⟩⟩
  obtain rfl : j = 0 := by simp [Ty.sz] at hj; omega
  simpa using h
theorem rd_lit1' {w W : World} {te : TypeId} {g : Nat} {n : Int} (hg : g = w.heap.size) (ho : -9223372036854775808 ≤ n ∧ n ≤ 9223372036854775807) (hb : Below (w.alloc (.cells #[.int .i64 n] te)).heap.size (w.alloc (.cells #[.int .i64 n] te)) W) :
    (Ty.sl .int).rd W [.slice (some ⟨g, 0, none⟩) 1 1] [n] := by
  subst hg; exact Ty.rd_below hb ((Row.lit1 flatI w te n (okI ho.1 ho.2) (Nat.le_refl _)).rd (by rw [World.size_alloc]; omega))
end Go.Proofs.Ytmhchmokjconoaa
