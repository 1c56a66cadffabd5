/- The digest of a key. -/
import Derived.Test.YtmhchmokjconoaaKey
import Derived.Test.YtmhchmokjconoaaByt
namespace Go.Proofs.Ytmhchmokjconoaa
open Go.RowKit
set_option linter.unusedVariables false
set_option linter.unusedSimpArgs false

theorem secret_bd {w : World} {v : Value} {x : List (Ty.D tKey)} (n : List (List UInt8)) (h : (Ty.sl tKey).rd w [v] x) : -9223372036854775808 ≤ f_SecretOf x n ∧ f_SecretOf x n ≤ 9223372036854775807 := by
  obtain ⟨A, c, rfl, hc, hm, hn⟩ := Ty.rd_sl h
  unfold f_SecretOf
  rcases find_ixf (sameName n) x with ⟨_, hf⟩ | ⟨k, hk, _, hf⟩
  · rw [hf]; exact ⟨by decide, by decide⟩
  · rw [hf]
    obtain ⟨b, o, ds, _, hl, hcell, hrd⟩ := Ty.rd_at h hk
    obtain ⟨_, _, _, _, hb⟩ := rd_Key hrd
    exact hb
def f_KeyDigest (x : List (Ty.D tKey)) (n : List (List UInt8)) : List UInt8 := if f_SecretOf x n = 0 then [] else f_AppendVarint [] (digest [f_SecretOf x n])
theorem rd_empty (w : World) {e : Ty} (A : Option Addr) : (Ty.sl e).rd w [.slice A 0 0] [] := ⟨A, 0, rfl, Nat.le_refl _, ⟨Nat.zero_le _, fun _ => rfl⟩, by simp, fun h => absurd h (by simp)⟩
theorem cnt_bytes (y : List UInt8) (h : y.length ≤ 30000000000) : Ty.cnt (.sl .byte) y ≤ 100000000000 := by
  have h1 := Ty.cnt_le (.sl .byte) y
  have h2 := Ty.bulk_flat (e := .byte) (fun _ => rfl) y
  have h3 : (Ty.sl .byte).wt ≤ 3 := by decide
  have h4 : (Ty.sl .byte).k0 = 0 := rfl
  rw [h2, h4] at h1
  have h5 : (Ty.sl .byte).wt * y.length ≤ 3 * y.length := Nat.mul_le_mul_right _ h3
  omega
theorem N_KeyDigest {x : List (Ty.D tKey)} {n : List (List UInt8)} (s0 : Ty.bulk (.sl tKey) x ≤ 1048576) (s1 : Ty.bulk (.sl .str) n ≤ 1048576) : Ty.cntv (.sl .byte) (f_KeyDigest x n) ≤ 100000000000 := by
  refine cnt_bytes _ ?_
  unfold f_KeyDigest f_AppendVarint
  split
  · simp
  · have hd := digest_le [f_SecretOf x n]
    rw [if_pos (by omega)]
    have := varint_len (digest [f_SecretOf x n]).toNat
    rw [List.nil_append]
    omega
end Go.Proofs.Ytmhchmokjconoaa
