/- A nonce is remembered. Printed by gen18.py. -/
import Derived.Test.YtpjnidfdkggpfaaDoorRet
import Derived.Test.YtpjnidfdkggpfaaDoorNb
import Derived.Test.YtpjnidfdkggpfaaDoorCsn
import Derived.Test.YtpjnidfdkggpfaaDoorMrk
namespace Go.Proofs.YtpjnidfdkggpfaaDoor
open Go.RowKit
set_option linter.unusedVariables false
set_option linter.unusedSimpArgs false

def snOut (s : List (Ty.D tSeenNonce)) (n : List (List UInt8)) (a : Int) : List (Ty.D tSeenNonce) := s ++ [(n, a)]
def f_AddSeenNonce (s : List (Ty.D tSeenNonce)) (n : List (List UInt8)) (a : Int) : List (Ty.D tSeenNonce) := if 24 < (snOut s n a).length then (snOut s n a).drop 1 else snOut s n a
theorem snOut_len (s : List (Ty.D tSeenNonce)) (n : List (List UInt8)) (a : Int) : (snOut s n a).length = s.length + 1 := by unfold snOut; simp
theorem N_AddSeenNonce {s : List (Ty.D tSeenNonce)} {n : List (List UInt8)} {a : Int} (s0 : Ty.bulk (.sl tSeenNonce) s ≤ 1048576) (s1 : Ty.bulk (.sl .str) n ≤ 1048576) : Ty.cnt (.sl tSeenNonce) (f_AddSeenNonce s n a) ≤ 100000000000 := by
  refine cnt_bd (t := .sl tSeenNonce) (B := 3000000) ?_ (by decide)
  have h : Ty.bulk (.sl tSeenNonce) (snOut s n a) ≤ 3000000 := by
    unfold snOut
    rw [bulk_app, bulk_one]
    have : Ty.bulk tSeenNonce (n, a) = Ty.bulk (.sl .str) n + 0 := rfl
    omega
  unfold f_AddSeenNonce
  split
  · exact Nat.le_trans (bulk_drop _ _) h
  · exact h
/-- A slice without its first element. -/
theorem Ty.ow_tail {w : World} {e : Ty} {b o n c : Nat} {x : List e.D} {fp : List Nat} {lo hi : Nat} (h : (Ty.sl e).ow w [.slice (some ⟨b, o, none⟩) n c] x fp) (h1 : 1 < x.length) (hf : FrI lo hi fp) :
    ∃ fp', (Ty.sl e).ow w [.slice (some ⟨b, o + e.sz, none⟩) (n - 1) (c - 1)] (x.drop 1) fp' ∧ FrI lo hi fp' := by
  obtain ⟨A, c', h2, h3, h4, h5, h6⟩ := h
  injection h2 with h2 _
  injection h2 with h2 hn2 h7
  subst h7
  have h3' : x.length ≤ c := h3
  have h5' : x.length ≤ 9223372036854775807 := h5
  rcases h6 with h6 | ⟨_, b', o', fs, hA, hfp, hc⟩
  · exact absurd h6.1 (by show ¬ x.length = 0; omega)
  rw [← h2] at hA
  injection hA with hA
  injection hA with hb ho
  subst hb; subst ho
  have hl : (x.drop 1).length = x.length - 1 := List.length_drop
  have hr : List.range x.length = 0 :: (List.range (x.length - 1)).map Nat.succ := by
    rw [show x.length = (x.length - 1) + 1 from by omega, List.range_succ_eq_map, Nat.add_sub_cancel]
  have hfp2 : fp = b :: (fs 0 ++ (List.range (x.length - 1)).flatMap (fun i => fs (i + 1))) := by
    have hfp' : fp = b :: (List.range x.length).flatMap fs := hfp
    rw [hfp', hr, List.flatMap_cons, List.flatMap_map]
  refine ⟨b :: (List.range (x.drop 1).length).flatMap (fun i => fs (i + 1)), ⟨_, c - 1, ?_, ?_, ⟨by have := h4.1; omega, fun h => by cases h⟩, ?_, .inr ⟨?_, b, o + e.sz, fun i => fs (i + 1), rfl, rfl, fun i hi => ?_⟩⟩, ?_⟩
  · rw [show n - 1 = List.length (x.drop 1) from by have : n = x.length := hn2; rw [hl]; omega]
  · show (x.drop 1).length ≤ c - 1; omega
  · show (x.drop 1).length ≤ _; omega
  · show 0 < (x.drop 1).length; omega
  · have hi' : i + 1 < x.length := by have : i < (x.drop 1).length := hi; omega
    obtain ⟨ds, g1, g2, g3⟩ := hc (i + 1) hi'
    refine ⟨ds, g1, fun j hj => ?_, ?_⟩
    · have := g2 j hj
      rw [show o + e.sz + i * e.sz + j = o + (i + 1) * e.sz + j from by rw [Nat.succ_mul]; omega]
      exact this
    · have : (x.drop 1)[i]'hi = x[i + 1] := by rw [List.getElem_drop]; congr 1; omega
      rw [this]; exact g3
  · rw [hfp2] at hf
    rw [hl]
    refine ⟨?_, fun y hy => hf.2 y ?_⟩
    · have h8 := hf.1
      rw [List.nodup_cons] at h8 ⊢
      exact ⟨fun hm => h8.1 (List.mem_append_right _ hm), (List.nodup_append.1 h8.2).2.1⟩
    · rcases List.mem_cons.1 hy with rfl | hy
      · exact List.mem_cons_self
      · exact List.mem_cons_of_mem _ (List.mem_append_right _ hy)
end Go.Proofs.YtpjnidfdkggpfaaDoor
