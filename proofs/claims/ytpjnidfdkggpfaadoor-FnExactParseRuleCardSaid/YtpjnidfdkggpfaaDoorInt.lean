/- Numbers: remainders, digests, rows of numbers. -/
import Derived.Test.YtpjnidfdkggpfaaDoorVal
import Derived.Test.YtpjnidfdkggpfaaDoorRow
namespace Go.Proofs.YtpjnidfdkggpfaaDoor
open Go.RowKit
set_option linter.unusedVariables false
set_option linter.unusedSimpArgs false

theorem infoI : (Tryd.prog.info? 3).map (fun i => (i.zero, i.size, i.bytes)) = some (some (.int .i64 0), 1, 8) := by kernel_rfl
theorem infoB : (Tryd.prog.info? 5).map (fun i => (i.zero, i.size, i.bytes)) = some (some (.int .u8 0), 1, 1) := by kernel_rfl
/-- The number that 'spec' and 'impl' call n mod m, at the prime. -/
def modP (n : Int) : Int := (n.tmod 2147483647 + 2147483647).tmod 2147483647
theorem tmodP_bd (n : Int) : -2147483647 < n.tmod 2147483647 ∧ n.tmod 2147483647 < 2147483647 := by
  have h1 := Int.tmod_lt_of_pos n (show (0 : Int) < 2147483647 by decide)
  refine ⟨?_, h1⟩
  rcases Int.le_total 0 n with h | h
  · have := Int.tmod_nonneg 2147483647 h; omega
  · have h3 := Int.tmod_lt_of_pos (-n) (show (0 : Int) < 2147483647 by decide)
    rw [Int.neg_tmod] at h3; omega
theorem modP_wrap (n : Int) : (wrap64 (n.tmod 2147483647 + 2147483647)).tmod 2147483647 = modP n := by
  unfold modP; rw [show wrap64 (n.tmod 2147483647 + 2147483647) = n.tmod 2147483647 + 2147483647 from by have := tmodP_bd n; unfold wrap64; omega]
theorem okI {n : Int} (h1 : -9223372036854775808 ≤ n) (h2 : n ≤ 9223372036854775807) : flatI.ok n := ⟨h1, h2⟩
theorem modP_le (n : Int) : 0 ≤ modP n ∧ modP n < 2147483647 := by
  unfold modP
  have h1 := Int.tmod_lt_of_pos n (show (0 : Int) < 2147483647 by decide)
  have h2 : -2147483647 < n.tmod 2147483647 := by
    rcases Int.le_total 0 n with h | h
    · have := Int.tmod_nonneg 2147483647 h; omega
    · have h3 := Int.tmod_lt_of_pos (-n) (show (0 : Int) < 2147483647 by decide)
      rw [Int.neg_tmod] at h3; omega
  exact ⟨Int.tmod_nonneg _ (by omega), Int.tmod_lt_of_pos _ (by decide)⟩
def digest (l : List Int) : Int := l.foldl (fun d x => (d * 1000003 + modP x + 13).tmod 2147483647) 11
theorem digest_le (l : List Int) : 0 ≤ digest l ∧ digest l < 2147483647 := by
  unfold digest
  have : ∀ (l : List Int) (d : Int), 0 ≤ d ∧ d < 2147483647 → 0 ≤ l.foldl (fun d x => (d * 1000003 + modP x + 13).tmod 2147483647) d ∧ l.foldl (fun d x => (d * 1000003 + modP x + 13).tmod 2147483647) d < 2147483647 := by
    intro l
    induction l with
    | nil => exact fun d h => h
    | cons a l ih =>
      intro d h
      have hm := modP_le a
      exact ih _ ⟨Int.tmod_nonneg _ (by omega), Int.tmod_lt_of_pos _ (by decide)⟩
  exact this l 11 (by omega)
/-- A row's length ahead of its bytes. -/
def pre (n : Int) (y : List UInt8) : List Int := n :: y.map fun c => (c.toNat : Int)
def bti (x : List UInt8) : List Int := pre x.length x
theorem pre_take (n : Int) (y : List UInt8) {k : Nat} (h : k < y.length) : pre n (y.take (k + 1)) = pre n (y.take k) ++ [(y[k].toNat : Int)] := by
  unfold pre; rw [List.take_succ_eq_append_getElem h, List.map_append]; rfl
theorem pre_len (n : Int) (y : List UInt8) : (pre n y).length = y.length + 1 := by simp [pre]
theorem digest_take (l : List Int) {k : Nat} (h : k < l.length) : digest (l.take (k + 1)) = (digest (l.take k) * 1000003 + modP l[k] + 13).tmod 2147483647 := by
  unfold digest
  rw [List.take_succ_eq_append_getElem h, List.foldl_append]; rfl
end Go.Proofs.YtpjnidfdkggpfaaDoor
