/- A nonce that was remembered is known: the plain law. Printed by gen48.py. -/
import Derived.Test.YtldgbnlcnlfmeaaAsn
import Derived.Test.YtldgbnlcnlfmeaaIlp
namespace Go.Proofs.Ytldgbnlcnlfmeaa
open Go.RowKit
set_option linter.unusedVariables false
set_option linter.unusedSimpArgs false

theorem seen_last (s : List (Ty.D tSeenNonce)) (n : List (List UInt8)) (a : Int) : (f_AddSeenNonce s n a).getLast? = some (n, a) := by
  unfold f_AddSeenNonce snOut
  split
  · rename_i h
    cases s with
    | nil => simp at h
    | cons y s => simp
  · simp
theorem seen_ne (s : List (Ty.D tSeenNonce)) (n : List (List UInt8)) (a : Int) : 0 < (f_AddSeenNonce s n a).length := by
  have h := seen_last s n a
  rcases hf : f_AddSeenNonce s n a with _ | ⟨y, l⟩
  · rw [hf] at h; cases h
  · simp
theorem seen_at (s : List (Ty.D tSeenNonce)) (n : List (List UInt8)) (a : Int) (h : (f_AddSeenNonce s n a).length - 1 < (f_AddSeenNonce s n a).length) : (f_AddSeenNonce s n a)[(f_AddSeenNonce s n a).length - 1] = (n, a) := by
  have h2 := seen_last s n a
  rw [List.getLast?_eq_getElem?, List.getElem?_eq_getElem h] at h2
  injection h2
theorem seen_le (s : List (Ty.D tSeenNonce)) (n : List (List UInt8)) (a : Int) (h : s.length ≤ 24) : (f_AddSeenNonce s n a).length ≤ 24 := by
  unfold f_AddSeenNonce
  split
  · rw [List.length_drop, snOut_len]; omega
  · omega
theorem seen_loop (s : List (Ty.D tSeenNonce)) (n : List (List UInt8)) (a b c : Int) : f_IsLoop [] (f_AddSeenNonce s n a) (n, a, b, c) = true := by
  unfold f_IsLoop
  rw [Bool.or_eq_true]
  right
  rw [List.any_eq_true]
  exact ⟨(n, a), List.mem_of_getLast? (seen_last s n a), by simp [seenBy]⟩
theorem seen_bulk (s : List (Ty.D tSeenNonce)) (n : List (List UInt8)) (a : Int) (h : Ty.bulk (.sl tSeenNonce) s ≤ 100000) (h2 : Ty.bulk (.sl .str) n ≤ 100000) : Ty.bulk (.sl tSeenNonce) (f_AddSeenNonce s n a) ≤ 1048576 := by
  have h3 : Ty.bulk (.sl tSeenNonce) (snOut s n a) ≤ 1048576 := by
    unfold snOut
    rw [bulk_app, bulk_one]
    have : Ty.bulk tSeenNonce (n, a) = Ty.bulk (.sl .str) n + 0 := rfl
    omega
  unfold f_AddSeenNonce
  split
  · exact Nat.le_trans (bulk_drop _ _) h3
  · exact h3
end Go.Proofs.Ytldgbnlcnlfmeaa
