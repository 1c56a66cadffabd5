/- Texts of this claim, merged by a program: Rvt Rbt. -/
import Derived.Test.YtidnahocnhcoiaaDoorQwP
import Derived.Test.YtidnahocnhcoiaaDoorQw1
import Derived.Laws.BitsAllLaws
import Derived.Laws.Bits128
import Derived.Test.YtidnahocnhcoiaaDoorQw2
namespace Go.Proofs.YtidnahocnhcoiaaDoor
open Go.RowKit
set_option linter.unusedVariables false
set_option linter.unusedSimpArgs false
def rvLoop (b : List UInt8) (at_ : Nat) : Nat → Nat → Nat → Option (Nat × Nat)
 | 0, _, _ => none
 | f + 1, k, n => match b[at_ + k]? with
  | none => none
  | some c => if c.toNat < 128 then (if (c.toNat = 0 ∧ 0 < k) ∨ 1000000000000 < n + c.toNat % 128 * 128 ^ k then none else some (n + c.toNat % 128 * 128 ^ k, at_ + k + 1)) else rvLoop b at_ f (k + 1) (n + c.toNat % 128 * 128 ^ k)
def readVarint (b : List UInt8) (at_ : Int) : Option (Nat × Nat) := if at_ < 0 then none else rvLoop b at_.toNat 6 0 0
theorem rv_end {b : List UInt8} {m k f n : Nat} (h : b.length ≤ m + k) : rvLoop b m f k n = none := by
 cases f with
 | zero => rfl
 | succ f => rw [rvLoop, List.getElem?_eq_none h]
theorem rv_go {b : List UInt8} {m k f n p cc : Nat} (hp : p = m + k) (h : p < b.length) (hc : b[p].toNat = cc) (h1 : 128 ≤ cc) : rvLoop b m (f + 1) k n = rvLoop b m f (k + 1) (n + cc % 128 * 128 ^ k) := by
 subst hp; subst hc; rw [rvLoop, List.getElem?_eq_getElem h]; simp only; rw [if_neg b_18]
theorem rv_no {b : List UInt8} {m k f n p cc : Nat} (hp : p = m + k) (h : p < b.length) (hc : b[p].toNat = cc) (h1 : cc < 128) (h2 : (cc = 0 ∧ 0 < k) ∨ 1000000000000 < n + cc % 128 * 128 ^ k) : rvLoop b m (f + 1) k n = none := by
 subst hp; subst hc; rw [rvLoop, List.getElem?_eq_getElem h]; simp only; rw [if_pos h1, if_pos h2]
theorem rv_yes {b : List UInt8} {m k f n p cc : Nat} (hp : p = m + k) (h : p < b.length) (hc : b[p].toNat = cc) (h1 : cc < 128) (h2 : ¬ ((cc = 0 ∧ 0 < k) ∨ 1000000000000 < n + cc % 128 * 128 ^ k)) : rvLoop b m (f + 1) k n = some (n + cc % 128 * 128 ^ k, p + 1) := by
 subst hp; subst hc; rw [rvLoop, List.getElem?_eq_getElem h]; simp only; rw [if_pos h1, if_neg h2]
theorem rv_bd {b : List UInt8} {m : Nat} : ∀ {f k n : Nat} {r : Nat × Nat}, rvLoop b m f k n = some r → r.1 ≤ 1000000000000 ∧ m < r.2 ∧ r.2 ≤ b.length
 | 0, _, _, _, h => by simp [rvLoop] at h
 | f + 1, k, n, r, h => by
  rw [rvLoop] at h
  cases hb : b[m + k]? with
  | none => rw [hb] at h; simp at h
  | some c =>
   rw [hb] at h
   have hl := (List.getElem?_eq_some_iff.1 hb).1
   simp only at h
   split at h
   ·split at h
    ·cases h
    ·rename_i h2
     injection h with h; subst h
     exact ⟨by simp only; omega, by simp only; omega, by simp only; omega⟩
   ·exact rv_bd h
theorem readVarint_bd {b : List UInt8} {a : Int} {r : Nat × Nat} (h : readVarint b a = some r) : r.1 ≤ 1000000000000 ∧ a < r.2 ∧ r.2 ≤ b.length := by
 unfold readVarint at h
 split at h
 ·cases h
 ·have := rv_bd h; exact ⟨this.1, by omega, this.2.2⟩
theorem rv_bound {n c k : Nat} (hn : n < 2 ^ (7 * k)) : n + c % 128 * 128 ^ k < 2 ^ (7 * (k + 1)) := by
 have h1 : 128 ^ k = 2 ^ (7 * k) := by rw [Nat.pow_mul]
 have h2 : 2 ^ (7 * (k + 1)) = 128 * 2 ^ (7 * k) := by rw [Nat.mul_add, Nat.pow_add]; omega
 have h3 : c % 128 * 2 ^ (7 * k) ≤ 127 * 2 ^ (7 * k) := Nat.mul_le_mul_right _ b_18
 rw [h1, h2]; omega
theorem rv_k0 {n cc N : Nat} (h1 : N = n + cc % 128 * 128 ^ 0) (h3 : n < 2 ^ (7 * 0)) : N ≤ 127 := by
 rw [Nat.pow_zero, Nat.mul_one] at h1
 rw [Nat.mul_zero, Nat.pow_zero] at h3
 omega
def RetRV (w : World) (r : Option (Nat × Nat)) (e : Ending) (w' : World) : Prop :=
 (match r with | none => e = .returned (.tuple #[.int .i64 0, .int .i64 0, .bool false]) | some q => e = .returned (.tuple #[.int .i64 q.1, .int .i64 q.2, .bool true])) ∧ w' = w
theorem i64_or_nat (a b : Nat) (ha : a < 9223372036854775808) (hb : b < 9223372036854775808) : bits .or .i64 (a : Int) (b : Int) = ((a ||| b : Nat) : Int) := by
 have hx : a ||| b < 2 ^ 63 := Nat.or_lt_two_pow b_18 b_18
 have h1 : (BitVec.ofInt 64 (a : Int)).toNat = a := by
  rw [BitVec.ofInt_natCast, BitVec.toNat_ofNat]; exact Nat.mod_eq_of_lt b_18
 have h2 : (BitVec.ofInt 64 (b : Int)).toNat = b := by
  rw [BitVec.ofInt_natCast, BitVec.toNat_ofNat]; exact Nat.mod_eq_of_lt b_18
 show IntKind.i64.wrap ((BitVec.ofInt 64 (a : Int) ||| BitVec.ofInt 64 (b : Int)).toNat : Int) = _
 rw [BitVec.toNat_or, h1, h2, IntKind.wrap_i64]
 omega
theorem or_join (n c i : Nat) (hi : i ≤ 35) (hn : n < 2 ^ i) (hc : c ≤ 255) : bits .or .i64 (n : Int) (wrap64 (bits .and .i64 (c : Int) 127 * ((2 ^ i : Nat) : Int))) = ((n + c % 128 * 2 ^ i : Nat) : Int) := by
 have h1 : bits .and .i64 (c : Int) 127 = ((c % 128 : Nat) : Int) := by rw [i64_and127]; rfl
 have hp : 2 ^ i ≤ 2 ^ 35 := Nat.pow_le_pow_right b_17 hi
 have hm : c % 128 * 2 ^ i ≤ 127 * 2 ^ 35 := Nat.mul_le_mul b_18 hp
 have h2 : wrap64 (((c % 128 : Nat) : Int) * ((2 ^ i : Nat) : Int)) = ((c % 128 * 2 ^ i : Nat) : Int) := by
  rw [← Int.natCast_mul]; unfold wrap64; omega
 rw [h1, h2, i64_or_nat _ _ b_18 b_18, Nat.or_comm, nat_join i _ _ (by rw [Nat.mul_mod_left]) hn, Nat.add_comm]
set_option maxHeartbeats 8000000 in
theorem C_impl_ReadVarint (w : World) (v : Value) (b : List UInt8) (a : Int) (h : (Ty.sl .byte).rd w [v] b) (hi : -9223372036854775808 ≤ a ∧ a ≤ 9223372036854775807) :
  Calls Tryd.prog 40 #[v, .int .i64 a] w (RetRV w (readVarint b a)) := by
 obtain ⟨A, c, rfl, hc, hm, hn⟩ := Ty.rd_sl h
 by_cases ha : a < 0
 ·have HR : Hid (readVarint b a = none) := if_pos ha
  go_enter Tryd.func40, Tryd.ntmps40
  go_wp2
  go_ret3
  rw [HR.out]
  exact ⟨rfl, rfl⟩
 obtain ⟨m, rfl⟩ : ∃ m : Nat, a = m := ⟨a.toNat, by omega⟩
 have HR : Hid (readVarint b m = rvLoop b m 6 0 0) := if_neg ha
 generalize readVarint b m = R at HR ⊢
 go_enter Tryd.func40, Tryd.ntmps40
 go_wp2
 go_loopw [1, 7, 8] (fun p q i wr => ∃ (k n pp : Nat), k ≤ 6 ∧ i = .int .i64 k ∧ p = .int .i64 pp ∧ Hid (pp = m + k) ∧ q = .int .i64 n ∧ Hid (n < 2 ^ (7 * k)) ∧ Hid (rvLoop b m (6 - k) k n = R) ∧ wr = w) (fun _ _ i _ => 6 - (intOf i).toNat)
 case atStart => exact ⟨0, 0, m, by omega, rfl, rfl, Lib.hid rfl, by rfl, Lib.hid b_17, Lib.hid HR.out.symm, rfl⟩
 case round =>
  obtain ⟨k, n, p, hk, rfl, rfl, hp, rfl, hnk, hR, hwr⟩ := hrel
  obtain rfl : w = wr := hwr.symm
  by_cases hk6 : k = 6
  ·subst hk6
   have HN : Hid (R = none) := hR.out.symm
   go_wp2
   go_ret3
   rw [HN.out]
   exact ⟨rfl, rfl⟩
  by_cases hlt : p < b.length
  ·obtain ⟨bb, o, rfl, e0⟩ := Ty.rd_byte_at h hlt
   have hu : b[p].toNat ≤ 255 := by have := UInt8.toNat_lt b[p]; omega
   generalize hcc : b[p].toNat = cc at e0 hu
   have HCC := Lib.hid hcc
   clear hcc
   obtain ⟨N, hN⟩ : ∃ N, N = n + cc % 128 * 128 ^ k := ⟨_, rfl⟩
   have HN := Lib.hid hN
   clear hN
   have hkk : k = 0 ∨ k = 1 ∨ k = 2 ∨ k = 3 ∨ k = 4 ∨ k = 5 := by omega
   rcases hkk with rfl | rfl | rfl | rfl | rfl | rfl
   ·have hx1 : bits .or .i64 (n : Int) (wrap64 (bits .and .i64 (cc : Int) 127)) = (N : Int) := by
     have h := or_join n cc 0 b_17 hnk.out hu
     rw [show ((2 ^ 0 : Nat) : Int) = 1 from rfl, Int.mul_one] at h
     exact h.trans (congrArg (fun x : Nat => (x : Int)) HN.out.symm)
    by_cases hc128 : cc < 128
    ·have hc1 : (cc : Int) < 128 := by omega
     by_cases h0 : cc = 0
     ·have h0' : ((cc : Int) == 0) = true := by rw [beq_iff_eq]; omega
      have HR0 := Lib.hid (show R = some (N, p + 1) from by rw [← hR.out, HN.out]; exact rv_yes hp.out hlt HCC.out hc128 (by rw [← HN.out]; have := rv_k0 HN.out hnk.out; omega))
      have H0 := Lib.hid h0
      clear h0
      have hmx' : ¬ (1000000000000 : Int) < N := by have := rv_k0 HN.out hnk.out; omega
      set_option maxRecDepth 100000 in go_wp2
      go_ret3
      rw [HR0.out]
      exact ⟨rfl, rfl⟩
     ·have h0' : ((cc : Int) == 0) = false := by rw [beq_eq_false_iff_ne]; omega
      by_cases hmx : 1000000000000 < N
      ·have HR0 := Lib.hid (show R = none from by rw [← hR.out]; exact rv_no hp.out hlt HCC.out hc128 (.inr (by rw [← HN.out]; exact hmx)))
       have hmx' : (1000000000000 : Int) < N := by omega
       set_option maxRecDepth 100000 in go_wp2
       go_ret3
       rw [HR0.out]
       exact ⟨rfl, rfl⟩
      ·have HR0 := Lib.hid (show R = some (N, p + 1) from by rw [← hR.out, HN.out]; exact rv_yes hp.out hlt HCC.out hc128 (by rw [← HN.out]; omega))
       have hmx' : ¬ (1000000000000 : Int) < N := by omega
       set_option maxRecDepth 100000 in go_wp2
       go_ret3
       rw [HR0.out]
       exact ⟨rfl, rfl⟩
    ·have hc1 : (128 : Int) ≤ cc := by omega
     have HR0 := Lib.hid (show rvLoop b m 5 1 N = R from by rw [← hR.out, HN.out]; exact (rv_go hp.out hlt HCC.out b_18).symm)
     have HNB := Lib.hid (show N < 2 ^ (7 * 1) from by rw [HN.out]; exact rv_bound hnk.out)
     have HP := Lib.hid hp.out
     clear hp hnk hR
     set_option maxRecDepth 100000 in go_wp2
     go_roundw
     case rel => exact ⟨1, N, p + 1, by omega, by first | rfl | go_num, by go_num, Lib.hid (by have := HP.out; omega), by rfl, HNB, HR0, by first | rfl | trivial⟩
     case measure => simp [intOf]
   ·have hx1 : bits .or .i64 (n : Int) (wrap64 (bits .and .i64 (cc : Int) 127 * 128)) = (N : Int) := by
     have h := or_join n cc 7 b_17 hnk.out hu
     rw [show ((2 ^ 7 : Nat) : Int) = 128 from rfl] at h
     exact h.trans (congrArg (fun x : Nat => (x : Int)) HN.out.symm)
    by_cases hc128 : cc < 128
    ·have hc1 : (cc : Int) < 128 := by omega
     by_cases h0 : cc = 0
     ·subst h0
      have HR0 := Lib.hid (show R = none from by rw [← hR.out]; exact rv_no hp.out hlt HCC.out hc128 (.inl ⟨rfl, by decide⟩))
      set_option maxRecDepth 100000 in go_wp2
      all_goals go_ret3
      all_goals rw [HR0.out]
      all_goals exact ⟨rfl, rfl⟩
     ·have h0' : ((cc : Int) == 0) = false := by rw [beq_eq_false_iff_ne]; omega
      by_cases hmx : 1000000000000 < N
      ·have HR0 := Lib.hid (show R = none from by rw [← hR.out]; exact rv_no hp.out hlt HCC.out hc128 (.inr (by rw [← HN.out]; exact hmx)))
       have hmx' : (1000000000000 : Int) < N := by omega
       set_option maxRecDepth 100000 in go_wp2
       go_ret3
       rw [HR0.out]
       exact ⟨rfl, rfl⟩
      ·have HR0 := Lib.hid (show R = some (N, p + 1) from by rw [← hR.out, HN.out]; exact rv_yes hp.out hlt HCC.out hc128 (by rw [← HN.out]; omega))
       have hmx' : ¬ (1000000000000 : Int) < N := by omega
       set_option maxRecDepth 100000 in go_wp2
       go_ret3
       rw [HR0.out]
       exact ⟨rfl, rfl⟩
    ·have hc1 : (128 : Int) ≤ cc := by omega
     have HR0 := Lib.hid (show rvLoop b m 4 2 N = R from by rw [← hR.out, HN.out]; exact (rv_go hp.out hlt HCC.out b_18).symm)
     have HNB := Lib.hid (show N < 2 ^ (7 * 2) from by rw [HN.out]; exact rv_bound hnk.out)
     have HP := Lib.hid hp.out
     clear hp hnk hR
     set_option maxRecDepth 100000 in go_wp2
     go_roundw
     case rel => exact ⟨2, N, p + 1, by omega, by first | rfl | go_num, by go_num, Lib.hid (by have := HP.out; omega), by rfl, HNB, HR0, by first | rfl | trivial⟩
     case measure => simp [intOf]
   ·have hx1 : bits .or .i64 (n : Int) (wrap64 (bits .and .i64 (cc : Int) 127 * 16384)) = (N : Int) := by
     have h := or_join n cc 14 b_17 hnk.out hu
     rw [show ((2 ^ 14 : Nat) : Int) = 16384 from rfl] at h
     exact h.trans (congrArg (fun x : Nat => (x : Int)) HN.out.symm)
    by_cases hc128 : cc < 128
    ·have hc1 : (cc : Int) < 128 := by omega
     by_cases h0 : cc = 0
     ·subst h0
      have HR0 := Lib.hid (show R = none from by rw [← hR.out]; exact rv_no hp.out hlt HCC.out hc128 (.inl ⟨rfl, by decide⟩))
      set_option maxRecDepth 100000 in go_wp2
      all_goals go_ret3
      all_goals rw [HR0.out]
      all_goals exact ⟨rfl, rfl⟩
     ·have h0' : ((cc : Int) == 0) = false := by rw [beq_eq_false_iff_ne]; omega
      by_cases hmx : 1000000000000 < N
      ·have HR0 := Lib.hid (show R = none from by rw [← hR.out]; exact rv_no hp.out hlt HCC.out hc128 (.inr (by rw [← HN.out]; exact hmx)))
       have hmx' : (1000000000000 : Int) < N := by omega
       set_option maxRecDepth 100000 in go_wp2
       go_ret3
       rw [HR0.out]
       exact ⟨rfl, rfl⟩
      ·have HR0 := Lib.hid (show R = some (N, p + 1) from by rw [← hR.out, HN.out]; exact rv_yes hp.out hlt HCC.out hc128 (by rw [← HN.out]; omega))
       have hmx' : ¬ (1000000000000 : Int) < N := by omega
       set_option maxRecDepth 100000 in go_wp2
       go_ret3
       rw [HR0.out]
       exact ⟨rfl, rfl⟩
    ·have hc1 : (128 : Int) ≤ cc := by omega
     have HR0 := Lib.hid (show rvLoop b m 3 3 N = R from by rw [← hR.out, HN.out]; exact (rv_go hp.out hlt HCC.out b_18).symm)
     have HNB := Lib.hid (show N < 2 ^ (7 * 3) from by rw [HN.out]; exact rv_bound hnk.out)
     have HP := Lib.hid hp.out
     clear hp hnk hR
     set_option maxRecDepth 100000 in go_wp2
     go_roundw
     case rel => exact ⟨3, N, p + 1, by omega, by first | rfl | go_num, by go_num, Lib.hid (by have := HP.out; omega), by rfl, HNB, HR0, by first | rfl | trivial⟩
     case measure => simp [intOf]
   ·have hx1 : bits .or .i64 (n : Int) (wrap64 (bits .and .i64 (cc : Int) 127 * 2097152)) = (N : Int) := by
     have h := or_join n cc 21 b_17 hnk.out hu
     rw [show ((2 ^ 21 : Nat) : Int) = 2097152 from rfl] at h
     exact h.trans (congrArg (fun x : Nat => (x : Int)) HN.out.symm)
    by_cases hc128 : cc < 128
    ·have hc1 : (cc : Int) < 128 := by omega
     by_cases h0 : cc = 0
     ·subst h0
      have HR0 := Lib.hid (show R = none from by rw [← hR.out]; exact rv_no hp.out hlt HCC.out hc128 (.inl ⟨rfl, by decide⟩))
      set_option maxRecDepth 100000 in go_wp2
      all_goals go_ret3
      all_goals rw [HR0.out]
      all_goals exact ⟨rfl, rfl⟩
     ·have h0' : ((cc : Int) == 0) = false := by rw [beq_eq_false_iff_ne]; omega
      by_cases hmx : 1000000000000 < N
      ·have HR0 := Lib.hid (show R = none from by rw [← hR.out]; exact rv_no hp.out hlt HCC.out hc128 (.inr (by rw [← HN.out]; exact hmx)))
       have hmx' : (1000000000000 : Int) < N := by omega
       set_option maxRecDepth 100000 in go_wp2
       go_ret3
       rw [HR0.out]
       exact ⟨rfl, rfl⟩
      ·have HR0 := Lib.hid (show R = some (N, p + 1) from by rw [← hR.out, HN.out]; exact rv_yes hp.out hlt HCC.out hc128 (by rw [← HN.out]; omega))
       have hmx' : ¬ (1000000000000 : Int) < N := by omega
       set_option maxRecDepth 100000 in go_wp2
       go_ret3
       rw [HR0.out]
       exact ⟨rfl, rfl⟩
    ·have hc1 : (128 : Int) ≤ cc := by omega
     have HR0 := Lib.hid (show rvLoop b m 2 4 N = R from by rw [← hR.out, HN.out]; exact (rv_go hp.out hlt HCC.out b_18).symm)
     have HNB := Lib.hid (show N < 2 ^ (7 * 4) from by rw [HN.out]; exact rv_bound hnk.out)
     have HP := Lib.hid hp.out
     clear hp hnk hR
     set_option maxRecDepth 100000 in go_wp2
     go_roundw
     case rel => exact ⟨4, N, p + 1, by omega, by first | rfl | go_num, by go_num, Lib.hid (by have := HP.out; omega), by rfl, HNB, HR0, by first | rfl | trivial⟩
     case measure => simp [intOf]
   ·have hx1 : bits .or .i64 (n : Int) (wrap64 (bits .and .i64 (cc : Int) 127 * 268435456)) = (N : Int) := by
     have h := or_join n cc 28 b_17 hnk.out hu
     rw [show ((2 ^ 28 : Nat) : Int) = 268435456 from rfl] at h
     exact h.trans (congrArg (fun x : Nat => (x : Int)) HN.out.symm)
    by_cases hc128 : cc < 128
    ·have hc1 : (cc : Int) < 128 := by omega
     by_cases h0 : cc = 0
     ·subst h0
      have HR0 := Lib.hid (show R = none from by rw [← hR.out]; exact rv_no hp.out hlt HCC.out hc128 (.inl ⟨rfl, by decide⟩))
      set_option maxRecDepth 100000 in go_wp2
      all_goals go_ret3
      all_goals rw [HR0.out]
      all_goals exact ⟨rfl, rfl⟩
     ·have h0' : ((cc : Int) == 0) = false := by rw [beq_eq_false_iff_ne]; omega
      by_cases hmx : 1000000000000 < N
      ·have HR0 := Lib.hid (show R = none from by rw [← hR.out]; exact rv_no hp.out hlt HCC.out hc128 (.inr (by rw [← HN.out]; exact hmx)))
       have hmx' : (1000000000000 : Int) < N := by omega
       set_option maxRecDepth 100000 in go_wp2
       go_ret3
       rw [HR0.out]
       exact ⟨rfl, rfl⟩
      ·have HR0 := Lib.hid (show R = some (N, p + 1) from by rw [← hR.out, HN.out]; exact rv_yes hp.out hlt HCC.out hc128 (by rw [← HN.out]; omega))
       have hmx' : ¬ (1000000000000 : Int) < N := by omega
       set_option maxRecDepth 100000 in go_wp2
       go_ret3
       rw [HR0.out]
       exact ⟨rfl, rfl⟩
    ·have hc1 : (128 : Int) ≤ cc := by omega
     have HR0 := Lib.hid (show rvLoop b m 1 5 N = R from by rw [← hR.out, HN.out]; exact (rv_go hp.out hlt HCC.out b_18).symm)
     have HNB := Lib.hid (show N < 2 ^ (7 * 5) from by rw [HN.out]; exact rv_bound hnk.out)
     have HP := Lib.hid hp.out
     clear hp hnk hR
     set_option maxRecDepth 100000 in go_wp2
     go_roundw
     case rel => exact ⟨5, N, p + 1, by omega, by first | rfl | go_num, by go_num, Lib.hid (by have := HP.out; omega), by rfl, HNB, HR0, by first | rfl | trivial⟩
     case measure => simp [intOf]
   ·have hx1 : bits .or .i64 (n : Int) (wrap64 (bits .and .i64 (cc : Int) 127 * 34359738368)) = (N : Int) := by
     have h := or_join n cc 35 b_17 hnk.out hu
     rw [show ((2 ^ 35 : Nat) : Int) = 34359738368 from rfl] at h
     exact h.trans (congrArg (fun x : Nat => (x : Int)) HN.out.symm)
    by_cases hc128 : cc < 128
    ·have hc1 : (cc : Int) < 128 := by omega
     by_cases h0 : cc = 0
     ·subst h0
      have HR0 := Lib.hid (show R = none from by rw [← hR.out]; exact rv_no hp.out hlt HCC.out hc128 (.inl ⟨rfl, by decide⟩))
      set_option maxRecDepth 100000 in go_wp2
      all_goals go_ret3
      all_goals rw [HR0.out]
      all_goals exact ⟨rfl, rfl⟩
     ·have h0' : ((cc : Int) == 0) = false := by rw [beq_eq_false_iff_ne]; omega
      by_cases hmx : 1000000000000 < N
      ·have HR0 := Lib.hid (show R = none from by rw [← hR.out]; exact rv_no hp.out hlt HCC.out hc128 (.inr (by rw [← HN.out]; exact hmx)))
       have hmx' : (1000000000000 : Int) < N := by omega
       set_option maxRecDepth 100000 in go_wp2
       go_ret3
       rw [HR0.out]
       exact ⟨rfl, rfl⟩
      ·have HR0 := Lib.hid (show R = some (N, p + 1) from by rw [← hR.out, HN.out]; exact rv_yes hp.out hlt HCC.out hc128 (by rw [← HN.out]; omega))
       have hmx' : ¬ (1000000000000 : Int) < N := by omega
       set_option maxRecDepth 100000 in go_wp2
       go_ret3
       rw [HR0.out]
       exact ⟨rfl, rfl⟩
    ·have hc1 : (128 : Int) ≤ cc := by omega
     have HR0 := Lib.hid (show rvLoop b m 0 6 N = R from by rw [← hR.out, HN.out]; exact (rv_go hp.out hlt HCC.out b_18).symm)
     have HNB := Lib.hid (show N < 2 ^ (7 * 6) from by rw [HN.out]; exact rv_bound hnk.out)
     have HP := Lib.hid hp.out
     clear hp hnk hR
     set_option maxRecDepth 100000 in go_wp2
     go_roundw
     case rel => exact ⟨6, N, p + 1, by omega, by first | rfl | go_num, by go_num, Lib.hid (by have := HP.out; omega), by rfl, HNB, HR0, by first | rfl | trivial⟩
     case measure => simp [intOf]
  ·have HN := Lib.hid (show R = none from by have := hp.out; rw [← hR.out, rv_end b_18])
   go_wp2
   go_ret3
   rw [HN.out]
   exact ⟨rfl, rfl⟩
set_option maxHeartbeats 8000000 in
theorem C_spec_ReadVarint (w : World) (v : Value) (b : List UInt8) (a : Int) (h : (Ty.sl .byte).rd w [v] b) (hi : -9223372036854775808 ≤ a ∧ a ≤ 9223372036854775807) :
  Calls Tryd.prog 43 #[v, .int .i64 a] w (RetRV w (readVarint b a)) := by
 obtain ⟨A, c, rfl, hc, hm, hn⟩ := Ty.rd_sl h
 by_cases ha : a < 0
 ·have HR : Hid (readVarint b a = none) := if_pos ha
  go_enter Tryd.func43, Tryd.ntmps43
  go_wp2
  go_loopw [7, 8] (fun q i wr => q = .int .i64 0 ∧ i = .int .i64 0 ∧ wr = w) (fun _ i _ => 6 - (intOf i).toNat)
  case atStart => exact ⟨rfl, rfl, rfl⟩
  case round =>
   obtain ⟨rfl, rfl, hwr⟩ := hrel
   obtain rfl : w = wr := hwr.symm
   go_wp2
   go_ret3
   rw [HR.out]
   exact ⟨rfl, rfl⟩
 obtain ⟨m, rfl⟩ : ∃ m : Nat, a = m := ⟨a.toNat, by omega⟩
 have HR : Hid (readVarint b m = rvLoop b m 6 0 0) := if_neg ha
 generalize readVarint b m = R at HR ⊢
 go_enter Tryd.func43, Tryd.ntmps43
 go_wp2
 go_loopw [7, 8] (fun q i wr => ∃ (k n pp : Nat), k ≤ 6 ∧ i = .int .i64 k ∧ Hid (pp = m + k) ∧ q = .int .i64 n ∧ Hid (n < 2 ^ (7 * k)) ∧ Hid (rvLoop b m (6 - k) k n = R) ∧ wr = w) (fun _ i _ => 6 - (intOf i).toNat)
 case atStart => exact ⟨0, 0, m, by omega, rfl, Lib.hid rfl, by rfl, Lib.hid b_17, Lib.hid HR.out.symm, rfl⟩
 case round =>
  obtain ⟨k, n, p, hk, rfl, hp, rfl, hnk, hR, hwr⟩ := hrel
  obtain rfl : w = wr := hwr.symm
  by_cases hk6 : k = 6
  ·subst hk6
   have HN : Hid (R = none) := hR.out.symm
   go_wp2
   go_ret3
   rw [HN.out]
   exact ⟨rfl, rfl⟩
  by_cases hlt : p < b.length
  ·obtain ⟨bb, o, rfl, e0⟩ := Ty.rd_byte_at h hlt
   have hu : b[p].toNat ≤ 255 := by have := UInt8.toNat_lt b[p]; omega
   generalize hcc : b[p].toNat = cc at e0 hu
   have HCC := Lib.hid hcc
   clear hcc
   obtain ⟨N, hN⟩ : ∃ N, N = n + cc % 128 * 128 ^ k := ⟨_, rfl⟩
   have HN := Lib.hid hN
   clear hN
   have hkk : k = 0 ∨ k = 1 ∨ k = 2 ∨ k = 3 ∨ k = 4 ∨ k = 5 := by omega
   rcases hkk with rfl | rfl | rfl | rfl | rfl | rfl
   ·obtain rfl : m = p := hp.out.symm
    have hx1 : bits .or .i64 (n : Int) (wrap64 (bits .and .i64 (cc : Int) 127)) = (N : Int) := by
     have h := or_join n cc 0 b_17 hnk.out hu
     rw [show ((2 ^ 0 : Nat) : Int) = 1 from rfl, Int.mul_one] at h
     exact h.trans (congrArg (fun x : Nat => (x : Int)) HN.out.symm)
    by_cases hc128 : cc < 128
    ·have hc1 : (cc : Int) < 128 := by omega
     by_cases h0 : cc = 0
     ·have h0' : ((cc : Int) == 0) = true := by rw [beq_iff_eq]; omega
      have HR0 := Lib.hid (show R = some (N, m + 1) from by rw [← hR.out, HN.out]; exact rv_yes hp.out hlt HCC.out hc128 (by rw [← HN.out]; have := rv_k0 HN.out hnk.out; omega))
      have H0 := Lib.hid h0
      clear h0
      have hmx' : ¬ (1000000000000 : Int) < N := by have := rv_k0 HN.out hnk.out; omega
      set_option maxRecDepth 100000 in go_wp2
      go_ret3
      rw [HR0.out]
      exact ⟨rfl, rfl⟩
     ·have h0' : ((cc : Int) == 0) = false := by rw [beq_eq_false_iff_ne]; omega
      by_cases hmx : 1000000000000 < N
      ·have HR0 := Lib.hid (show R = none from by rw [← hR.out]; exact rv_no hp.out hlt HCC.out hc128 (.inr (by rw [← HN.out]; exact hmx)))
       have hmx' : (1000000000000 : Int) < N := by omega
       set_option maxRecDepth 100000 in go_wp2
       go_ret3
       rw [HR0.out]
       exact ⟨rfl, rfl⟩
      ·have HR0 := Lib.hid (show R = some (N, m + 1) from by rw [← hR.out, HN.out]; exact rv_yes hp.out hlt HCC.out hc128 (by rw [← HN.out]; omega))
       have hmx' : ¬ (1000000000000 : Int) < N := by omega
       set_option maxRecDepth 100000 in go_wp2
       go_ret3
       rw [HR0.out]
       exact ⟨rfl, rfl⟩
    ·have hc1 : (128 : Int) ≤ cc := by omega
     have HR0 := Lib.hid (show rvLoop b m 5 1 N = R from by rw [← hR.out, HN.out]; exact (rv_go hp.out hlt HCC.out b_18).symm)
     have HNB := Lib.hid (show N < 2 ^ (7 * 1) from by rw [HN.out]; exact rv_bound hnk.out)
     have HP := Lib.hid hp.out
     clear hp hnk hR
     set_option maxRecDepth 100000 in go_wp2
     go_roundw
     case rel => exact ⟨1, N, m + 1, by omega, by first | rfl | go_num, Lib.hid (by have := HP.out; omega), by rfl, HNB, HR0, by first | rfl | trivial⟩
     case measure => simp [intOf]
   ·obtain rfl : p = m + 1 := hp.out
    have hx1 : bits .or .i64 (n : Int) (wrap64 (bits .and .i64 (cc : Int) 127 * 128)) = (N : Int) := by
     have h := or_join n cc 7 b_17 hnk.out hu
     rw [show ((2 ^ 7 : Nat) : Int) = 128 from rfl] at h
     exact h.trans (congrArg (fun x : Nat => (x : Int)) HN.out.symm)
    by_cases hc128 : cc < 128
    ·have hc1 : (cc : Int) < 128 := by omega
     by_cases h0 : cc = 0
     ·subst h0
      have HR0 := Lib.hid (show R = none from by rw [← hR.out]; exact rv_no hp.out hlt HCC.out hc128 (.inl ⟨rfl, by decide⟩))
      set_option maxRecDepth 100000 in go_wp2
      all_goals go_ret3
      all_goals rw [HR0.out]
      all_goals exact ⟨rfl, rfl⟩
     ·have h0' : ((cc : Int) == 0) = false := by rw [beq_eq_false_iff_ne]; omega
      by_cases hmx : 1000000000000 < N
      ·have HR0 := Lib.hid (show R = none from by rw [← hR.out]; exact rv_no hp.out hlt HCC.out hc128 (.inr (by rw [← HN.out]; exact hmx)))
       have hmx' : (1000000000000 : Int) < N := by omega
       set_option maxRecDepth 100000 in go_wp2
       go_ret3
       rw [HR0.out]
       exact ⟨rfl, rfl⟩
      ·have HR0 := Lib.hid (show R = some (N, m + 1 + 1) from by rw [← hR.out, HN.out]; exact rv_yes hp.out hlt HCC.out hc128 (by rw [← HN.out]; omega))
       have hmx' : ¬ (1000000000000 : Int) < N := by omega
       set_option maxRecDepth 100000 in go_wp2
       go_ret3
       rw [HR0.out]
       exact ⟨rfl, rfl⟩
    ·have hc1 : (128 : Int) ≤ cc := by omega
     have HR0 := Lib.hid (show rvLoop b m 4 2 N = R from by rw [← hR.out, HN.out]; exact (rv_go hp.out hlt HCC.out b_18).symm)
     have HNB := Lib.hid (show N < 2 ^ (7 * 2) from by rw [HN.out]; exact rv_bound hnk.out)
     have HP := Lib.hid hp.out
     clear hp hnk hR
     set_option maxRecDepth 100000 in go_wp2
     go_roundw
     case rel => exact ⟨2, N, m + 1 + 1, by omega, by first | rfl | go_num, Lib.hid (by have := HP.out; omega), by rfl, HNB, HR0, by first | rfl | trivial⟩
     case measure => simp [intOf]
   ·obtain rfl : p = m + 2 := hp.out
    have hx1 : bits .or .i64 (n : Int) (wrap64 (bits .and .i64 (cc : Int) 127 * 16384)) = (N : Int) := by
     have h := or_join n cc 14 b_17 hnk.out hu
     rw [show ((2 ^ 14 : Nat) : Int) = 16384 from rfl] at h
     exact h.trans (congrArg (fun x : Nat => (x : Int)) HN.out.symm)
    by_cases hc128 : cc < 128
    ·have hc1 : (cc : Int) < 128 := by omega
     by_cases h0 : cc = 0
     ·subst h0
      have HR0 := Lib.hid (show R = none from by rw [← hR.out]; exact rv_no hp.out hlt HCC.out hc128 (.inl ⟨rfl, by decide⟩))
      set_option maxRecDepth 100000 in go_wp2
      all_goals go_ret3
      all_goals rw [HR0.out]
      all_goals exact ⟨rfl, rfl⟩
     ·have h0' : ((cc : Int) == 0) = false := by rw [beq_eq_false_iff_ne]; omega
      by_cases hmx : 1000000000000 < N
      ·have HR0 := Lib.hid (show R = none from by rw [← hR.out]; exact rv_no hp.out hlt HCC.out hc128 (.inr (by rw [← HN.out]; exact hmx)))
       have hmx' : (1000000000000 : Int) < N := by omega
       set_option maxRecDepth 100000 in go_wp2
       go_ret3
       rw [HR0.out]
       exact ⟨rfl, rfl⟩
      ·have HR0 := Lib.hid (show R = some (N, m + 2 + 1) from by rw [← hR.out, HN.out]; exact rv_yes hp.out hlt HCC.out hc128 (by rw [← HN.out]; omega))
       have hmx' : ¬ (1000000000000 : Int) < N := by omega
       set_option maxRecDepth 100000 in go_wp2
       go_ret3
       rw [HR0.out]
       exact ⟨rfl, rfl⟩
    ·have hc1 : (128 : Int) ≤ cc := by omega
     have HR0 := Lib.hid (show rvLoop b m 3 3 N = R from by rw [← hR.out, HN.out]; exact (rv_go hp.out hlt HCC.out b_18).symm)
     have HNB := Lib.hid (show N < 2 ^ (7 * 3) from by rw [HN.out]; exact rv_bound hnk.out)
     have HP := Lib.hid hp.out
     clear hp hnk hR
     set_option maxRecDepth 100000 in go_wp2
     go_roundw
     case rel => exact ⟨3, N, m + 2 + 1, by omega, by first | rfl | go_num, Lib.hid (by have := HP.out; omega), by rfl, HNB, HR0, by first | rfl | trivial⟩
     case measure => simp [intOf]
   ·obtain rfl : p = m + 3 := hp.out
    have hx1 : bits .or .i64 (n : Int) (wrap64 (bits .and .i64 (cc : Int) 127 * 2097152)) = (N : Int) := by
     have h := or_join n cc 21 b_17 hnk.out hu
     rw [show ((2 ^ 21 : Nat) : Int) = 2097152 from rfl] at h
     exact h.trans (congrArg (fun x : Nat => (x : Int)) HN.out.symm)
    by_cases hc128 : cc < 128
    ·have hc1 : (cc : Int) < 128 := by omega
     by_cases h0 : cc = 0
     ·subst h0
      have HR0 := Lib.hid (show R = none from by rw [← hR.out]; exact rv_no hp.out hlt HCC.out hc128 (.inl ⟨rfl, by decide⟩))
      set_option maxRecDepth 100000 in go_wp2
      all_goals go_ret3
      all_goals rw [HR0.out]
      all_goals exact ⟨rfl, rfl⟩
     ·have h0' : ((cc : Int) == 0) = false := by rw [beq_eq_false_iff_ne]; omega
      by_cases hmx : 1000000000000 < N
      ·have HR0 := Lib.hid (show R = none from by rw [← hR.out]; exact rv_no hp.out hlt HCC.out hc128 (.inr (by rw [← HN.out]; exact hmx)))
       have hmx' : (1000000000000 : Int) < N := by omega
       set_option maxRecDepth 100000 in go_wp2
       go_ret3
       rw [HR0.out]
       exact ⟨rfl, rfl⟩
      ·have HR0 := Lib.hid (show R = some (N, m + 3 + 1) from by rw [← hR.out, HN.out]; exact rv_yes hp.out hlt HCC.out hc128 (by rw [← HN.out]; omega))
       have hmx' : ¬ (1000000000000 : Int) < N := by omega
       set_option maxRecDepth 100000 in go_wp2
       go_ret3
       rw [HR0.out]
       exact ⟨rfl, rfl⟩
    ·have hc1 : (128 : Int) ≤ cc := by omega
     have HR0 := Lib.hid (show rvLoop b m 2 4 N = R from by rw [← hR.out, HN.out]; exact (rv_go hp.out hlt HCC.out b_18).symm)
     have HNB := Lib.hid (show N < 2 ^ (7 * 4) from by rw [HN.out]; exact rv_bound hnk.out)
     have HP := Lib.hid hp.out
     clear hp hnk hR
     set_option maxRecDepth 100000 in go_wp2
     go_roundw
     case rel => exact ⟨4, N, m + 3 + 1, by omega, by first | rfl | go_num, Lib.hid (by have := HP.out; omega), by rfl, HNB, HR0, by first | rfl | trivial⟩
     case measure => simp [intOf]
   ·obtain rfl : p = m + 4 := hp.out
    have hx1 : bits .or .i64 (n : Int) (wrap64 (bits .and .i64 (cc : Int) 127 * 268435456)) = (N : Int) := by
     have h := or_join n cc 28 b_17 hnk.out hu
     rw [show ((2 ^ 28 : Nat) : Int) = 268435456 from rfl] at h
     exact h.trans (congrArg (fun x : Nat => (x : Int)) HN.out.symm)
    by_cases hc128 : cc < 128
    ·have hc1 : (cc : Int) < 128 := by omega
     by_cases h0 : cc = 0
     ·subst h0
      have HR0 := Lib.hid (show R = none from by rw [← hR.out]; exact rv_no hp.out hlt HCC.out hc128 (.inl ⟨rfl, by decide⟩))
      set_option maxRecDepth 100000 in go_wp2
      all_goals go_ret3
      all_goals rw [HR0.out]
      all_goals exact ⟨rfl, rfl⟩
     ·have h0' : ((cc : Int) == 0) = false := by rw [beq_eq_false_iff_ne]; omega
      by_cases hmx : 1000000000000 < N
      ·have HR0 := Lib.hid (show R = none from by rw [← hR.out]; exact rv_no hp.out hlt HCC.out hc128 (.inr (by rw [← HN.out]; exact hmx)))
       have hmx' : (1000000000000 : Int) < N := by omega
       set_option maxRecDepth 100000 in go_wp2
       go_ret3
       rw [HR0.out]
       exact ⟨rfl, rfl⟩
      ·have HR0 := Lib.hid (show R = some (N, m + 4 + 1) from by rw [← hR.out, HN.out]; exact rv_yes hp.out hlt HCC.out hc128 (by rw [← HN.out]; omega))
       have hmx' : ¬ (1000000000000 : Int) < N := by omega
       set_option maxRecDepth 100000 in go_wp2
       go_ret3
       rw [HR0.out]
       exact ⟨rfl, rfl⟩
    ·have hc1 : (128 : Int) ≤ cc := by omega
     have HR0 := Lib.hid (show rvLoop b m 1 5 N = R from by rw [← hR.out, HN.out]; exact (rv_go hp.out hlt HCC.out b_18).symm)
     have HNB := Lib.hid (show N < 2 ^ (7 * 5) from by rw [HN.out]; exact rv_bound hnk.out)
     have HP := Lib.hid hp.out
     clear hp hnk hR
     set_option maxRecDepth 100000 in go_wp2
     go_roundw
     case rel => exact ⟨5, N, m + 4 + 1, by omega, by first | rfl | go_num, Lib.hid (by have := HP.out; omega), by rfl, HNB, HR0, by first | rfl | trivial⟩
     case measure => simp [intOf]
   ·obtain rfl : p = m + 5 := hp.out
    have hx1 : bits .or .i64 (n : Int) (wrap64 (bits .and .i64 (cc : Int) 127 * 34359738368)) = (N : Int) := by
     have h := or_join n cc 35 b_17 hnk.out hu
     rw [show ((2 ^ 35 : Nat) : Int) = 34359738368 from rfl] at h
     exact h.trans (congrArg (fun x : Nat => (x : Int)) HN.out.symm)
    by_cases hc128 : cc < 128
    ·have hc1 : (cc : Int) < 128 := by omega
     by_cases h0 : cc = 0
     ·subst h0
      have HR0 := Lib.hid (show R = none from by rw [← hR.out]; exact rv_no hp.out hlt HCC.out hc128 (.inl ⟨rfl, by decide⟩))
      set_option maxRecDepth 100000 in go_wp2
      all_goals go_ret3
      all_goals rw [HR0.out]
      all_goals exact ⟨rfl, rfl⟩
     ·have h0' : ((cc : Int) == 0) = false := by rw [beq_eq_false_iff_ne]; omega
      by_cases hmx : 1000000000000 < N
      ·have HR0 := Lib.hid (show R = none from by rw [← hR.out]; exact rv_no hp.out hlt HCC.out hc128 (.inr (by rw [← HN.out]; exact hmx)))
       have hmx' : (1000000000000 : Int) < N := by omega
       set_option maxRecDepth 100000 in go_wp2
       go_ret3
       rw [HR0.out]
       exact ⟨rfl, rfl⟩
      ·have HR0 := Lib.hid (show R = some (N, m + 5 + 1) from by rw [← hR.out, HN.out]; exact rv_yes hp.out hlt HCC.out hc128 (by rw [← HN.out]; omega))
       have hmx' : ¬ (1000000000000 : Int) < N := by omega
       set_option maxRecDepth 100000 in go_wp2
       go_ret3
       rw [HR0.out]
       exact ⟨rfl, rfl⟩
    ·have hc1 : (128 : Int) ≤ cc := by omega
     have HR0 := Lib.hid (show rvLoop b m 0 6 N = R from by rw [← hR.out, HN.out]; exact (rv_go hp.out hlt HCC.out b_18).symm)
     have HNB := Lib.hid (show N < 2 ^ (7 * 6) from by rw [HN.out]; exact rv_bound hnk.out)
     have HP := Lib.hid hp.out
     clear hp hnk hR
     set_option maxRecDepth 100000 in go_wp2
     go_roundw
     case rel => exact ⟨6, N, m + 5 + 1, by omega, by first | rfl | go_num, Lib.hid (by have := HP.out; omega), by rfl, HNB, HR0, by first | rfl | trivial⟩
     case measure => simp [intOf]
  ·have HN := Lib.hid (show R = none from by have := hp.out; rw [← hR.out, rv_end b_18])
   have hge : (b.length : Int) - k ≤ m := by have := hp.out; omega
   have hk5 : (k : Int) < 6 := by omega
   set_option maxRecDepth 100000 in go_wp2
   go_ret3
   rw [HN.out]
   exact ⟨rfl, rfl⟩
def readBytes (b : List UInt8) (a most : Int) : Option (List UInt8 × Nat) := match readVarint b a with
 | none => none
 | some q => if most < q.1 ∨ (b.length : Int) - q.2 < q.1 then none else some ((b.drop q.2).take q.1, q.2 + q.1)
def rb0 (r : Option (List UInt8 × Nat)) : List UInt8 := match r with | none => [] | some q => q.1
def rb1 (r : Option (List UInt8 × Nat)) : Int := match r with | none => 0 | some q => q.2
theorem readBytes_bd {b : List UInt8} {a most : Int} {r : List UInt8 × Nat} (h : readBytes b a most = some r) : (r.1.length : Int) ≤ most ∧ r.1.length ≤ b.length ∧ r.2 ≤ b.length ∧ a < r.2 := by
 unfold readBytes at h
 cases hv : readVarint b a with
 | none => rw [hv] at h; cases h
 | some q =>
  rw [hv] at h
  simp only at h
  have hb := readVarint_bd hv
  split at h
  ·cases h
  ·rename_i hn
   injection h with h; subst h
   have h1 : ((b.drop q.2).take q.1).length ≤ q.1 := List.length_take_le _ _
   have h2 : ((b.drop q.2).take q.1).length ≤ b.length := by rw [List.length_take, List.length_drop]; omega
   exact ⟨by simp only; omega, h2, by simp only; omega, by simp only; omega⟩
theorem readBytes_none {b : List UInt8} {a most : Int} (h : readVarint b a = none) : readBytes b a most = none := by unfold readBytes; rw [h]
theorem readBytes_no {b : List UInt8} {a most : Int} {q : Nat × Nat} (h : readVarint b a = some q) (h2 : most < q.1 ∨ (b.length : Int) - q.2 < q.1) : readBytes b a most = none := by unfold readBytes; rw [h]; exact if_pos h2
theorem readBytes_yes {b : List UInt8} {a most : Int} {q : Nat × Nat} (h : readVarint b a = some q) (h2 : ¬ (most < q.1 ∨ (b.length : Int) - q.2 < q.1)) : readBytes b a most = some ((b.drop q.2).take q.1, q.2 + q.1) := by unfold readBytes; rw [h]; exact if_neg h2
theorem readVarint_nn {b : List UInt8} {a : Int} {r : Nat × Nat} (h : readVarint b a = some r) : 0 ≤ a := by
 unfold readVarint at h
 split at h
 ·cases h
 ·omega
theorem rd_zero (w : World) {e : Ty} (a : Addr) (c : Nat) (hc : c ≤ maxLen) : (Ty.sl e).rd w [.slice (some a) 0 c] [] := ⟨some a, c, rfl, Nat.zero_le _, ⟨hc, fun h => by cases h⟩, by simp, fun h => absurd h b_19⟩
theorem Ty.rd_part {w : World} {e : Ty} {b o n c : Nat} {x : List e.D} (h : (Ty.sl e).rd w [.slice (some ⟨b, o, none⟩) n c] x) {p k : Nat} (hk : p + k ≤ x.length) : (Ty.sl e).rd w [.slice (some ⟨b, o + p * e.sz, none⟩) k (c - p)] ((x.drop p).take k) := by
 obtain ⟨A', c', h1, h2, h3, h4, h5⟩ := h
 injection h1 with h1 _
 injection h1 with h1 hn1 h6
 subst h1; subst h6
 have hl : ((x.drop p).take k).length = k := by rw [List.length_take, List.length_drop]; omega
 have h2' : x.length ≤ c := h2
 have h4' : x.length ≤ 9223372036854775807 := h4
 have h3' := h3.1
 refine ⟨_, c - p, by rw [show List.length ((x.drop p).take k) = k from hl], by show ((x.drop p).take k).length ≤ _; omega, ⟨by omega, fun h => by cases h⟩, by show ((x.drop p).take k).length ≤ _; omega, fun hn => ?_⟩
 have hn' : 0 < ((x.drop p).take k).length := hn
 obtain ⟨b', o', hA, hc⟩ := h5 (by show 0 < x.length; omega)
 injection hA with hA
 injection hA with hA1 hA2
 subst hA1; subst hA2
 refine ⟨b, o + p * e.sz, rfl, fun i hi => ?_⟩
 have hi' : i < k := by have : i < ((x.drop p).take k).length := hi; omega
 obtain ⟨ds, g1, g2, g3⟩ := hc (p + i) b_18
 refine ⟨ds, g1, fun j hj => ?_, by rw [List.getElem_take, List.getElem_drop]; exact g3⟩
 rw [← g2 j hj, Nat.add_mul]
 congr 2
 omega
set_option maxHeartbeats 4000000 in
theorem C_impl_ReadBytes (w : World) (v : Value) (b : List UInt8) (a most : Int) (h : (Ty.sl .byte).rd w [v] b) (hi : -9223372036854775808 ≤ a ∧ a ≤ 9223372036854775807) (hb : b.length ≤ 1000000000000) (hmost : 0 ≤ most ∧ most ≤ 1000000) :
  Calls Tryd.prog 41 #[v, .int .i64 a, .int .i64 most] w (RetSl3 w .byte (rb0 (readBytes b a most)) (.int .i64 (rb1 (readBytes b a most))) (.bool (readBytes b a most).isSome)) := by
 obtain ⟨A, c, rfl, hc, hm, hn⟩ := Ty.rd_sl h
 have hcall := C_impl_ReadVarint w _ b a h hi
 cases hv : readVarint b a with
 | none =>
  have HN := Lib.hid (readBytes_none (most := most) hv)
  rw [hv] at hcall
  generalize readBytes b a most = R at HN ⊢
  go_enter Tryd.func41, Tryd.ntmps41
  go_wp2_with (go_at_call 40; refine hcall.mono ?_; rintro e w1 ⟨rfl, rfl⟩)
  go_ret3
  rw [HN.out]
  exact ⟨none, 0, [], rfl, rd_ow_nil _ _, FrI.nil _ _, Below.refl _ _⟩
 | some q =>
  obtain ⟨n, p⟩ := q
  have hbd := readVarint_bd hv
  have hnn := readVarint_nn hv
  rw [hv] at hcall
  simp only at hbd
  by_cases hbad : most < (n : Int) ∨ (b.length : Int) - p < n
  ·have HN := Lib.hid (readBytes_no hv hbad)
   generalize readBytes b a most = R at HN ⊢
   rcases Classical.em (most < (n : Int)) with hb1 | hb1
   ·skip
    go_enter Tryd.func41, Tryd.ntmps41
    go_wp2_with (go_at_call 40; refine hcall.mono ?_; rintro e w1 ⟨rfl, rfl⟩)
    go_ret3
    rw [HN.out]
    exact ⟨none, 0, [], rfl, rd_ow_nil _ _, FrI.nil _ _, Below.refl _ _⟩
   ·have hb2 : (b.length : Int) - p < n := by rcases hbad with h | h; exact absurd h hb1; exact h
    clear hbad
    go_enter Tryd.func41, Tryd.ntmps41
    go_wp2_with (go_at_call 40; refine hcall.mono ?_; rintro e w1 ⟨rfl, rfl⟩)
    go_ret3
    rw [HN.out]
    exact ⟨none, 0, [], rfl, rd_ow_nil _ _, FrI.nil _ _, Below.refl _ _⟩
  ·have HN := Lib.hid (readBytes_yes hv hbad)
   have hb1 : ¬ most < (n : Int) := fun h => hbad (.inl h)
   have hb2 : ¬ (b.length : Int) - p < n := fun h => hbad (.inr h)
   clear hbad
   obtain ⟨bb, o, rfl, _⟩ := Ty.rd_byte_at h (show 0 < b.length by omega)
   generalize readBytes b a most = R at HN ⊢
   have HP := Lib.hid (Ty.rd_part h (p := p) (k := n) b_18)
   have HLN := Lib.hid (show ((b.drop p).take n).length = n from by rw [List.length_take, List.length_drop]; omega)
   by_cases hcp : c = p
   ·subst hcp
    have hn0 : n = 0 := by omega
    subst hn0
    have HZ := Lib.hid (rd_zero w (e := .byte) ⟨bb, o, none⟩ 0 (by unfold maxLen; omega))
    go_enter Tryd.func41, Tryd.ntmps41
    go_wp2_with (go_at_call 40; refine hcall.mono ?_; rintro e w1 ⟨rfl, rfl⟩)
    try rw [Addr.add_lit]
    refine (C_slices_Clone_byte _ _ [] HZ.out b_19).mono ?_
    rintro e w2 ⟨v2, rfl, hr2, hb2⟩
    obtain ⟨A2, c2, fp2, rfl, how2, hfr2⟩ := hr2.own hb2.size
    clear hr2
    go_wp2
    go_ret3
    rw [HN.out]
    exact ⟨A2, c2, fp2, by first | rfl | simp [rb0, rb1], by simpa [rb0] using how2, hfr2, hb2⟩
   ·have HQ := Lib.hid (show (Ty.sl .byte).rd w [.slice (some ⟨bb, o + p, none⟩) n (c - p)] ((b.drop p).take n) from by simpa [Ty.sz] using HP.out)
    go_enter Tryd.func41, Tryd.ntmps41
    go_wp2_with (go_at_call 40; refine hcall.mono ?_; rintro e w1 ⟨rfl, rfl⟩)
    try rw [Addr.add_lit]
    refine (C_slices_Clone_byte _ _ ((b.drop p).take n) HQ.out (by rw [List.length_take, List.length_drop]; omega)).mono ?_
    rintro e w2 ⟨v2, rfl, hr2, hb2⟩
    obtain ⟨A2, c2, fp2, rfl, how2, hfr2⟩ := hr2.own hb2.size
    clear hr2
    go_wp2
    go_ret3
    rw [HN.out]
    exact ⟨A2, c2, fp2, by first | rfl | simp [rb0, rb1], by simpa [rb0] using how2, hfr2, hb2⟩
set_option maxHeartbeats 4000000 in
theorem C_spec_ReadBytes (w : World) (v : Value) (b : List UInt8) (a most : Int) (h : (Ty.sl .byte).rd w [v] b) (hi : -9223372036854775808 ≤ a ∧ a ≤ 9223372036854775807) (hb : b.length ≤ 1000000000000) (hmost : 0 ≤ most ∧ most ≤ 1000000) :
  Calls Tryd.prog 44 #[v, .int .i64 a, .int .i64 most] w (RetSl3 w .byte (rb0 (readBytes b a most)) (.int .i64 (rb1 (readBytes b a most))) (.bool (readBytes b a most).isSome)) := by
 obtain ⟨A, c, rfl, hc, hm, hn⟩ := Ty.rd_sl h
 have hcall := C_spec_ReadVarint w _ b a h hi
 cases hv : readVarint b a with
 | none =>
  have HN := Lib.hid (readBytes_none (most := most) hv)
  rw [hv] at hcall
  generalize readBytes b a most = R at HN ⊢
  go_enter Tryd.func44, Tryd.ntmps44
  go_wp2_with (go_at_call 43; refine hcall.mono ?_; rintro e w1 ⟨rfl, rfl⟩)
  go_ret3
  rw [HN.out]
  obtain ⟨A9, c9, fp9, hv9, how9, hfr9⟩ := (Row.lit0 flatB w1 5 (Nat.le_refl _)).own (by rw [World.size_alloc]; omega)
  injection hv9 with hv9 _ hv9c
  subst hv9; subst hv9c
  exact ⟨_, _, fp9, rfl, how9, hfr9, b_3⟩
 | some q =>
  obtain ⟨n, p⟩ := q
  have hbd := readVarint_bd hv
  have hnn := readVarint_nn hv
  rw [hv] at hcall
  simp only at hbd
  by_cases hbad : most < (n : Int) ∨ (b.length : Int) - p < n
  ·have HN := Lib.hid (readBytes_no hv hbad)
   generalize readBytes b a most = R at HN ⊢
   rcases Classical.em (most < (n : Int)) with hb1 | hb1
   ·skip
    go_enter Tryd.func44, Tryd.ntmps44
    go_wp2_with (go_at_call 43; refine hcall.mono ?_; rintro e w1 ⟨rfl, rfl⟩)
    go_ret3
    rw [HN.out]
    obtain ⟨A9, c9, fp9, hv9, how9, hfr9⟩ := (Row.lit0 flatB w1 5 (Nat.le_refl _)).own (by rw [World.size_alloc]; omega)
    injection hv9 with hv9 _ hv9c
    subst hv9; subst hv9c
    exact ⟨_, _, fp9, rfl, how9, hfr9, b_3⟩
   ·have hb2 : (b.length : Int) - p < n := by rcases hbad with h | h; exact absurd h hb1; exact h
    clear hbad
    go_enter Tryd.func44, Tryd.ntmps44
    go_wp2_with (go_at_call 43; refine hcall.mono ?_; rintro e w1 ⟨rfl, rfl⟩)
    go_ret3
    rw [HN.out]
    obtain ⟨A9, c9, fp9, hv9, how9, hfr9⟩ := (Row.lit0 flatB w1 5 (Nat.le_refl _)).own (by rw [World.size_alloc]; omega)
    injection hv9 with hv9 _ hv9c
    subst hv9; subst hv9c
    exact ⟨_, _, fp9, rfl, how9, hfr9, b_3⟩
  ·have HN := Lib.hid (readBytes_yes hv hbad)
   have hb1 : ¬ most < (n : Int) := fun h => hbad (.inl h)
   have hb2 : ¬ (b.length : Int) - p < n := fun h => hbad (.inr h)
   clear hbad
   obtain ⟨bb, o, rfl, _⟩ := Ty.rd_byte_at h (show 0 < b.length by omega)
   generalize readBytes b a most = R at HN ⊢
   have HP := Lib.hid (Ty.rd_part h (p := p) (k := n) b_18)
   have HLN := Lib.hid (show ((b.drop p).take n).length = n from by rw [List.length_take, List.length_drop]; omega)
   by_cases hcp : c = p
   ·subst hcp
    have hn0 : n = 0 := by omega
    subst hn0
    have HZ := Lib.hid (rd_zero w (e := .byte) ⟨bb, o, none⟩ 0 (by unfold maxLen; omega))
    have HL00 := Lib.hid (Row.lit0 flatB w 5 (Nat.le_refl _))
    go_enter Tryd.func44, Tryd.ntmps44
    go_wp2_with fail
    refine hcall.mono ?_
    rintro e w1 ⟨rfl, rfl⟩
    set_option maxRecDepth 100000 in go_wp2_with (at_builtin; go_loud (refine wpList_append_row rfl _ _ 22 rfl flatB w1.heap.size 5 infoB rfl Tryd.underlying22 _ (.slice (some ⟨bb, o, none⟩) 0 0) [] ([]) rfl rfl HL00.out (Ty.rd_below b_3 HZ.out) ?_ ?_ ?_ ?_))
    case refine_1 => simp
    case refine_2 => simp
    case refine_3 => simp only [World.size_alloc]; omega
    intro v' w' hr' hg'
    have hb' : Below w1.heap.size w1 w' := bel_grown b_3 b_12 hg' (fun g hg => by simp [Value.ownBlock] at hg; omega)
    obtain ⟨A2, c2, fp2, rfl, how2, hfr2⟩ := hr'.own hb'.size
    clear hr'
    go_wp2
    go_ret3
    rw [HN.out]
    exact ⟨A2, c2, fp2, by first | rfl | simp [rb0, rb1], by simpa [rb0] using how2, hfr2, hb'⟩
   ·have HQ := Lib.hid (show (Ty.sl .byte).rd w [.slice (some ⟨bb, o + p, none⟩) (p + n - p) (c - p)] ((b.drop p).take n) from by rw [Nat.add_sub_cancel_left]; simpa [Ty.sz] using HP.out)
    have HL00 := Lib.hid (Row.lit0 flatB w 5 (Nat.le_refl _))
    go_enter Tryd.func44, Tryd.ntmps44
    go_wp2_with fail
    refine hcall.mono ?_
    rintro e w1 ⟨rfl, rfl⟩
    set_option maxRecDepth 100000 in go_wp2_with (at_builtin; go_loud (refine wpList_append_row rfl _ _ 22 rfl flatB w1.heap.size 5 infoB rfl Tryd.underlying22 _ (.slice (some ⟨bb, o + p, none⟩) (p + n - p) (c - p)) [] ((b.drop p).take n) rfl rfl HL00.out (Ty.rd_below b_3 HQ.out) ?_ ?_ ?_ ?_))
    case refine_1 => rw [HLN.out, List.length_nil]; omega
    case refine_2 => rw [HLN.out, List.length_nil]; unfold maxLen; omega
    case refine_3 => simp only [World.size_alloc]; omega
    intro v' w' hr' hg'
    have hb' : Below w1.heap.size w1 w' := bel_grown b_3 b_12 hg' (fun g hg => by simp [Value.ownBlock] at hg; omega)
    obtain ⟨A2, c2, fp2, rfl, how2, hfr2⟩ := hr'.own hb'.size
    clear hr'
    go_wp2
    go_ret3
    rw [HN.out]
    exact ⟨A2, c2, fp2, by first | rfl | simp [rb0, rb1], by simpa [rb0] using how2, hfr2, hb'⟩
end Go.Proofs.YtidnahocnhcoiaaDoor
