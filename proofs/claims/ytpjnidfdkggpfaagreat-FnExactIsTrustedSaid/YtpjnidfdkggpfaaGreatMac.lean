/- Secrets, codes. -/
import Derived.Test.YtpjnidfdkggpfaaGreatInt
namespace Go.Proofs.YtpjnidfdkggpfaaGreat
open Go.RowKit
set_option linter.unusedVariables false
set_option linter.unusedSimpArgs false

def mac (s : Int) (l : List Int) : Int := digest (s :: (l ++ [s]))
set_option maxHeartbeats 400000 in
theorem C_spec_ValidSecret (w : World) (n : Int) : Calls Tryz.prog 83 #[.int .i64 n] w (RetBP w (inR n 1 2147483646)) := by
  go_enter Tryz.func83, Tryz.ntmps83
  go_wp2_with fail
  refine (C_spec_l1In _ _ _ _).mono ?_
  rintro e w1 ⟨rfl, rfl⟩
  go_wp2
  go_ret
  exact ⟨rfl, rfl⟩
set_option maxHeartbeats 400000 in
theorem C_impl_ValidSecret (w : World) (n : Int) : Calls Tryz.prog 91 #[.int .i64 n] w (RetBP w (inR n 1 2147483646)) := by
  go_enter Tryz.func91, Tryz.ntmps91
  go_wp2_with fail
  refine (C_impl_InRange _ _ _ _).mono ?_
  rintro e w1 ⟨rfl, rfl⟩
  go_wp2
  go_ret
  exact ⟨rfl, rfl⟩
set_option maxHeartbeats 1000000 in
theorem C_spec_ComputeMAC (w : World) (v : Value) (s : Int) (x : List Int) (hs : -9223372036854775808 ≤ s ∧ s ≤ 9223372036854775807) (h : (Ty.sl .int).rd w [v] x) (hx : x.length ≤ 1099511627776) :
    Calls Tryz.prog 84 #[.int .i64 s, v] w (RetI w (mac s x)) := by
  obtain ⟨A, c, rfl, hc, hm, hn⟩ := Ty.rd_sl h
  have HS0 := Lib.hid (Row.lit1 flatI w 3 s (okI hs.1 hs.2) (Nat.le_refl _))
  go_enter Tryz.func84, Tryz.ntmps84
  set_option maxRecDepth 100000 in go_wp2_with (at_builtin; go_loud (refine wpList_append_row rfl _ _ 112 rfl flatI w.heap.size 3 infoI rfl Tryz.underlying112 _ _ [s] x rfl rfl HS0.out (Ty.rd_below (by repeat' (first | (with_reducible exact Below.refl _ _) | (with_reducible assumption) | (with_reducible refine bel_set ?_ (by (try dsimp only); omega) _) | (with_reducible refine bel_alloc ?_ _) | (with_reducible refine bel_drewN ?_ _) | (with_reducible refine bel_drew ?_))) h) ?_ ?_ ?_ ?_))
  case refine_1 => simp only [List.length_cons, List.length_nil]; omega
  case refine_2 => simp only [List.length_cons, List.length_nil]; unfold maxLen; omega
  case refine_3 => simp only [World.size_alloc]; omega
  intro v1 w1 hr1 hg1
  have hb1 : Below w.heap.size w w1 := bel_grown (by repeat' (first | (with_reducible exact Below.refl _ _) | (with_reducible assumption) | (with_reducible refine bel_set ?_ (by (try dsimp only); omega) _) | (with_reducible refine bel_alloc ?_ _) | (with_reducible refine bel_drewN ?_ _) | (with_reducible refine bel_drew ?_))) (by (try simp only [World.size_alloc, World.size_setCell, size_drewN, World.size_drew]); omega) hg1 (fun g hg => by simp [Value.ownBlock] at hg; omega)
  have HR1 := Lib.hid hr1
  clear hr1
  have HS1 := Lib.hid (Row.lit1 flatI w1 3 s (okI hs.1 hs.2) (Nat.le_refl _))
  have hz1 := hb1.size
  set_option maxRecDepth 100000 in go_wp2_with (at_builtin; go_loud (refine wpList_append_row rfl _ _ 112 rfl flatI w.heap.size 3 infoI rfl Tryz.underlying112 _ _ ([s] ++ x) [s] rfl rfl (HR1.out.below (by repeat' (first | (with_reducible exact Below.refl _ _) | (with_reducible assumption) | (with_reducible refine bel_set ?_ (by (try dsimp only); omega) _) | (with_reducible refine bel_alloc ?_ _) | (with_reducible refine bel_drewN ?_ _) | (with_reducible refine bel_drew ?_)))) (HS1.out.rd (by (try simp only [World.size_alloc, World.size_setCell, size_drewN, World.size_drew]); omega)) ?_ ?_ ?_ ?_))
  case refine_1 => simp only [List.length_append, List.length_cons, List.length_nil]; omega
  case refine_2 => simp only [List.length_append, List.length_cons, List.length_nil]; unfold maxLen; omega
  case refine_3 => simp only [World.size_alloc]; omega
  intro v2 w2 hr2 hg2
  have hb2 : Below w.heap.size w w2 := bel_grown (bel_alloc hb1 _) (by (try simp only [World.size_alloc, World.size_setCell, size_drewN, World.size_drew]); omega) hg2 (fun g hg => (HR1.out.block g hg).1)
  have HR2 := Lib.hid hr2
  clear hr2
  go_wp2_with fail
  refine (C_spec_Digest _ _ (s :: (x ++ [s])) (HR2.out.rd hb2.size)).mono ?_
  rintro e w3 ⟨rfl, hb3⟩
  have hw3 : Below w.heap.size w w3 := bel_trans hb2 hb3
  go_wp2
  go_ret
  exact ⟨rfl, hw3⟩
end Go.Proofs.YtpjnidfdkggpfaaGreat
