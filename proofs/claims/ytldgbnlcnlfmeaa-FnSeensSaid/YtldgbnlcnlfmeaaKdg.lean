/- The digest of a key. -/
import Derived.Test.YtldgbnlcnlfmeaaKey
import Derived.Test.YtldgbnlcnlfmeaaByt
namespace Go.Proofs.Ytldgbnlcnlfmeaa
open Go.RowKit
set_option linter.unusedVariables false
set_option linter.unusedSimpArgs false

theorem secret_bd {w : World} {v : Value} {x : List (Ty.D tKey)} (n : List (List UInt8)) (h : (Ty.sl tKey).rd w [v] x) : -9223372036854775808 ≤ f_SecretOf x n ∧ f_SecretOf x n ≤ 9223372036854775807 := by
  obtain ⟨A, c, rfl, hc, hm, hn⟩ := Ty.rd_sl h
  unfold f_SecretOf
  rcases find_ixf (sameName n) x with ⟨_, hf⟩ | ⟨k, hk, _, hf⟩
  · rw [hf]; exact ⟨by decide, by decide⟩
  · rw [hf]
    obtain ⟨b, o, ds, _, hl, hcell, hrd⟩ := Ty.rd_at h hk
    obtain ⟨_, _, _, _, hb⟩ := rd_Key hrd
    exact hb
def f_KeyDigest (x : List (Ty.D tKey)) (n : List (List UInt8)) : List UInt8 := if f_SecretOf x n = 0 then [] else f_AppendVarint [] (digest [f_SecretOf x n])
theorem rd_empty (w : World) {e : Ty} (A : Option Addr) : (Ty.sl e).rd w [.slice A 0 0] [] := ⟨A, 0, rfl, Nat.le_refl _, ⟨Nat.zero_le _, fun _ => rfl⟩, by simp, fun h => absurd h (by simp)⟩
theorem cnt_bytes (y : List UInt8) (h : y.length ≤ 30000000000) : Ty.cnt (.sl .byte) y ≤ 100000000000 := by
  have h1 := Ty.cnt_le (.sl .byte) y
  have h2 := Ty.bulk_flat (e := .byte) (fun _ => rfl) y
  have h3 : (Ty.sl .byte).wt ≤ 3 := by decide
  have h4 : (Ty.sl .byte).k0 = 0 := rfl
  rw [h2, h4] at h1
  have h5 : (Ty.sl .byte).wt * y.length ≤ 3 * y.length := Nat.mul_le_mul_right _ h3
  omega
theorem N_KeyDigest {x : List (Ty.D tKey)} {n : List (List UInt8)} (s0 : Ty.bulk (.sl tKey) x ≤ 1048576) (s1 : Ty.bulk (.sl .str) n ≤ 1048576) : Ty.cntv (.sl .byte) (f_KeyDigest x n) ≤ 100000000000 := by
  refine cnt_bytes _ ?_
  unfold f_KeyDigest f_AppendVarint
  split
  · simp
  · have hd := digest_le [f_SecretOf x n]
    rw [if_pos (by omega)]
    have := varint_len (digest [f_SecretOf x n]).toNat
    rw [List.nil_append]
    omega
set_option maxHeartbeats 1000000 in
theorem C_spec_KeyDigest (w : World) (v : Value) (x : List (Ty.D tKey)) (cs2 : List Value) (n : List (List UInt8)) (h1 : (Ty.sl tKey).rd w [v] x) (h2 : (Ty.sl .str).rd w cs2 n) (s0 : Ty.bulk (.sl tKey) x ≤ 1048576) (s1 : Ty.bulk (.sl .str) n ≤ 1048576) :
    Calls Try.prog 173 #[v, .agg cs2.toArray] w (RetSl w .byte (f_KeyDigest x n)) := by
  obtain ⟨A2, c2, rfl⟩ := Ty.rd_slv h2
  have hbd := secret_bd n h1
  go_enter Try.func173, Try.ntmps173
  go_wp2_with fail
  refine (C_spec_SecretOf _ _ _ _ _ (Ty.rd_below (by repeat' (first | (with_reducible exact Below.refl _ _) | (with_reducible assumption) | (with_reducible refine bel_set ?_ (by (try dsimp only); omega) _) | (with_reducible refine bel_alloc ?_ _) | (with_reducible refine bel_drewN ?_ _) | (with_reducible refine bel_drew ?_))) h1) (Ty.rd_below (by repeat' (first | (with_reducible exact Below.refl _ _) | (with_reducible assumption) | (with_reducible refine bel_set ?_ (by (try dsimp only); omega) _) | (with_reducible refine bel_alloc ?_ _) | (with_reducible refine bel_drewN ?_ _) | (with_reducible refine bel_drew ?_))) h2) s0 s1).mono ?_
  rintro e w1 ⟨rfl, hb1⟩
  have hw1 : Below w.heap.size w w1 := bel_trans (by repeat' (first | (with_reducible exact Below.refl _ _) | (with_reducible assumption) | (with_reducible refine bel_set ?_ (by (try dsimp only); omega) _) | (with_reducible refine bel_alloc ?_ _) | (with_reducible refine bel_drewN ?_ _) | (with_reducible refine bel_drew ?_))) hb1
  have HF := Lib.hid (show f_KeyDigest x n = if f_SecretOf x n = 0 then [] else f_AppendVarint [] (digest [f_SecretOf x n]) from rfl)
  generalize f_SecretOf x n = s at HF hbd ⊢
  by_cases hs : s = 0
  · subst hs
    go_wp2
    go_ret
    have hr : Row flatB (w1.alloc (.cells #[] 5)) w.heap.size 5 (.slice (some ⟨w1.heap.size, 0, none⟩) 0 0) [] := Row.lit0 flatB w1 5 hw1.size
    rw [HF.out, if_pos trivial]
    exact RetRow.sl ⟨_, rfl, hr, (by repeat' (first | (with_reducible exact Below.refl _ _) | (with_reducible assumption) | (with_reducible refine bel_set ?_ (by (try dsimp only); omega) _) | (with_reducible refine bel_alloc ?_ _) | (with_reducible refine bel_drewN ?_ _) | (with_reducible refine bel_drew ?_)))⟩
  · have HS := Lib.hid hs
    have hrd := (Row.lit1 flatI (w1.alloc (.cells #[] 5)) 3 s (okI hbd.1 hbd.2) (Nat.le_refl _)).rd (by (try simp only [World.size_alloc, World.size_setCell, size_drewN, World.size_drew]); omega)
    rw [World.size_alloc] at hrd
    have HRD := Lib.hid hrd
    clear hrd
    go_wp2_with fail
    refine (C_spec_Digest _ _ [s] HRD.out).mono ?_
    rintro e w2 ⟨rfl, hb2⟩
    have hw2 : Below w.heap.size w w2 := bel_trans (by repeat' (first | (with_reducible exact Below.refl _ _) | (with_reducible assumption) | (with_reducible refine bel_set ?_ (by (try dsimp only); omega) _) | (with_reducible refine bel_alloc ?_ _) | (with_reducible refine bel_drewN ?_ _) | (with_reducible refine bel_drew ?_))) hb2
    have hd := digest_le [s]
    go_wp2_with fail
    refine (C_spec_AppendVarint _ _ [] _ (rd_empty _ _) (by simp) (by omega)).mono ?_
    rintro e w3 ⟨v3, rfl, hr3, hb3⟩
    have hw3 : Below w.heap.size w w3 := bel_trans hw2 hb3
    have HR := Lib.hid (hr3.mono hw2.size)
    clear hr3
    go_wp2
    go_ret
    rw [HF.out, if_neg HS.out]
    exact RetRow.sl ⟨_, rfl, HR.out, hw3⟩
set_option maxHeartbeats 1000000 in
theorem C_impl_KeyDigest (w : World) (v : Value) (x : List (Ty.D tKey)) (cs2 : List Value) (n : List (List UInt8)) (h1 : (Ty.sl tKey).rd w [v] x) (h2 : (Ty.sl .str).rd w cs2 n) (s0 : Ty.bulk (.sl tKey) x ≤ 1048576) (s1 : Ty.bulk (.sl .str) n ≤ 1048576) :
    Calls Try.prog 90 #[v, .agg cs2.toArray] w (RetSl w .byte (f_KeyDigest x n)) := by
  obtain ⟨A2, c2, rfl⟩ := Ty.rd_slv h2
  have hbd := secret_bd n h1
  go_enter Try.func90, Try.ntmps90
  go_wp2_with fail
  refine (C_impl_SecretOf _ _ _ _ _ (Ty.rd_below (by repeat' (first | (with_reducible exact Below.refl _ _) | (with_reducible assumption) | (with_reducible refine bel_set ?_ (by (try dsimp only); omega) _) | (with_reducible refine bel_alloc ?_ _) | (with_reducible refine bel_drewN ?_ _) | (with_reducible refine bel_drew ?_))) h1) (Ty.rd_below (by repeat' (first | (with_reducible exact Below.refl _ _) | (with_reducible assumption) | (with_reducible refine bel_set ?_ (by (try dsimp only); omega) _) | (with_reducible refine bel_alloc ?_ _) | (with_reducible refine bel_drewN ?_ _) | (with_reducible refine bel_drew ?_))) h2) s0 s1).mono ?_
  rintro e w1 ⟨rfl, hb1⟩
  have hw1 : Below w.heap.size w w1 := bel_trans (by repeat' (first | (with_reducible exact Below.refl _ _) | (with_reducible assumption) | (with_reducible refine bel_set ?_ (by (try dsimp only); omega) _) | (with_reducible refine bel_alloc ?_ _) | (with_reducible refine bel_drewN ?_ _) | (with_reducible refine bel_drew ?_))) hb1
  have HF := Lib.hid (show f_KeyDigest x n = if f_SecretOf x n = 0 then [] else f_AppendVarint [] (digest [f_SecretOf x n]) from rfl)
  generalize f_SecretOf x n = s at HF hbd ⊢
  by_cases hs : s = 0
  · subst hs
    go_wp2
    go_ret
    rw [HF.out, if_pos trivial]
    exact RetRow.sl (te := 5) (F := flatB) ⟨_, rfl, Row.nil _ _ _ _, hw1⟩
  · have HS := Lib.hid hs
    go_wp2_with fail
    refine (C_impl_Digest _ _ [s] ((Row.lit1 flatI w1 3 s (okI hbd.1 hbd.2) (Nat.le_refl _)).rd (by (try simp only [World.size_alloc, World.size_setCell, size_drewN, World.size_drew]); omega))).mono ?_
    rintro e w2 ⟨rfl, hb2⟩
    have hw2 : Below w.heap.size w w2 := bel_trans (by repeat' (first | (with_reducible exact Below.refl _ _) | (with_reducible assumption) | (with_reducible refine bel_set ?_ (by (try dsimp only); omega) _) | (with_reducible refine bel_alloc ?_ _) | (with_reducible refine bel_drewN ?_ _) | (with_reducible refine bel_drew ?_))) hb2
    have hd := digest_le [s]
    go_wp2_with fail
    refine (C_impl_AppendVarint _ _ [] _ (rd_empty _ _) (by simp) (by omega)).mono ?_
    rintro e w3 ⟨v3, rfl, hr3, hb3⟩
    have hw3 : Below w.heap.size w w3 := bel_trans hw2 hb3
    have HR := Lib.hid (hr3.mono hw2.size)
    clear hr3
    go_wp2
    go_ret
    rw [HF.out, if_neg HS.out]
    exact RetRow.sl ⟨_, rfl, HR.out, hw3⟩
end Go.Proofs.Ytldgbnlcnlfmeaa
