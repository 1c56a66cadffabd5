/- Anchors. Printed by gen27.py. -/
import Derived.Test.YtpjnidfdkggpfaaGreatIxf
import Derived.Test.YtpjnidfdkggpfaaGreatNb
import Derived.StillTailTactics
namespace Go.Proofs.YtpjnidfdkggpfaaGreat
open Go.RowKit
set_option linter.unusedVariables false
set_option linter.unusedSimpArgs false

def nameIs (n a : List (List UInt8)) : Bool := decide (a = n)
def f_IsAnchor (t : tTrustPolicy.D) (n : List (List UInt8)) : Bool := List.any t.2.2.1 (nameIs n)
set_option maxHeartbeats 1000000 in
theorem C_spec_IsAnchor (w : World) (cs1 : List Value) (t : tTrustPolicy.D) (cs2 : List Value) (n : List (List UInt8)) (h1 : tTrustPolicy.rd w cs1 t) (h2 : (Ty.sl .str).rd w cs2 n) (s0 : Ty.bulk tTrustPolicy t ≤ 1048576) (s1 : Ty.bulk (.sl .str) n ≤ 1048576) :
    Calls Tryz.prog 40 #[.agg cs1.toArray, .agg cs2.toArray] w (RetB w (f_IsAnchor t n)) := by
  obtain ⟨At0, ct0, At1, ct1, At2, ct2, At3, ct3, rfl, tg0, tg1, tg2, tg3⟩ := rd_TrustPolicy h1
  obtain ⟨An0, cn0, rfl⟩ := Ty.rd_slv h2
  have HF := Lib.hid (show f_IsAnchor t n = List.any t.2.2.1 (nameIs n) from rfl)
  have kb0_0 : ((w.alloc (.cells #[.slice At0 (List.length t.1) ct0, .slice At1 (List.length t.2.1) ct1, .slice At2 (List.length t.2.2.1) ct2, .slice At3 (List.length t.2.2.2) ct3] 42)).alloc (.cells #[.slice An0 (List.length n) cn0] 44)).cell? ⟨w.heap.size, 0, none⟩ = some (.slice At0 (List.length t.1) ct0) := ((World.cell?_alloc_lt _ _ _ (by simp only [World.size_alloc]; omega)).trans (cell_new w _ _ 0 (by first | rfl | simp only [World.size_alloc])))
  have kb0_1 : ((w.alloc (.cells #[.slice At0 (List.length t.1) ct0, .slice At1 (List.length t.2.1) ct1, .slice At2 (List.length t.2.2.1) ct2, .slice At3 (List.length t.2.2.2) ct3] 42)).alloc (.cells #[.slice An0 (List.length n) cn0] 44)).cell? ⟨w.heap.size, 1, none⟩ = some (.slice At1 (List.length t.2.1) ct1) := ((World.cell?_alloc_lt _ _ _ (by simp only [World.size_alloc]; omega)).trans (cell_new w _ _ 1 (by first | rfl | simp only [World.size_alloc])))
  have kb0_2 : ((w.alloc (.cells #[.slice At0 (List.length t.1) ct0, .slice At1 (List.length t.2.1) ct1, .slice At2 (List.length t.2.2.1) ct2, .slice At3 (List.length t.2.2.2) ct3] 42)).alloc (.cells #[.slice An0 (List.length n) cn0] 44)).cell? ⟨w.heap.size, 2, none⟩ = some (.slice At2 (List.length t.2.2.1) ct2) := ((World.cell?_alloc_lt _ _ _ (by simp only [World.size_alloc]; omega)).trans (cell_new w _ _ 2 (by first | rfl | simp only [World.size_alloc])))
  have kb0_3 : ((w.alloc (.cells #[.slice At0 (List.length t.1) ct0, .slice At1 (List.length t.2.1) ct1, .slice At2 (List.length t.2.2.1) ct2, .slice At3 (List.length t.2.2.2) ct3] 42)).alloc (.cells #[.slice An0 (List.length n) cn0] 44)).cell? ⟨w.heap.size, 3, none⟩ = some (.slice At3 (List.length t.2.2.2) ct3) := ((World.cell?_alloc_lt _ _ _ (by simp only [World.size_alloc]; omega)).trans (cell_new w _ _ 3 (by first | rfl | simp only [World.size_alloc])))
  have kb1_0 : ((w.alloc (.cells #[.slice At0 (List.length t.1) ct0, .slice At1 (List.length t.2.1) ct1, .slice At2 (List.length t.2.2.1) ct2, .slice At3 (List.length t.2.2.2) ct3] 42)).alloc (.cells #[.slice An0 (List.length n) cn0] 44)).cell? ⟨w.heap.size + 1, 0, none⟩ = some (.slice An0 (List.length n) cn0) := (cell_new (w.alloc (.cells #[.slice At0 (List.length t.1) ct0, .slice At1 (List.length t.2.1) ct1, .slice At2 (List.length t.2.2.1) ct2, .slice At3 (List.length t.2.2.2) ct3] 42)) _ _ 0 (by first | rfl | simp only [World.size_alloc]))
  have hvb : Below w.heap.size w ((w.alloc (.cells #[.slice At0 (List.length t.1) ct0, .slice At1 (List.length t.2.1) ct1, .slice At2 (List.length t.2.2.1) ct2, .slice At3 (List.length t.2.2.2) ct3] 42)).alloc (.cells #[.slice An0 (List.length n) cn0] 44)) := (by repeat' (first | (with_reducible exact Below.refl _ _) | (with_reducible assumption) | (with_reducible refine bel_set ?_ (by (try dsimp only); omega) _) | (with_reducible refine bel_alloc ?_ _) | (with_reducible refine bel_drewN ?_ _) | (with_reducible refine bel_drew ?_)))
  have zb0 := Lib.hid (show ((w.alloc (.cells #[.slice At0 (List.length t.1) ct0, .slice At1 (List.length t.2.1) ct1, .slice At2 (List.length t.2.2.1) ct2, .slice At3 (List.length t.2.2.2) ct3] 42)).alloc (.cells #[.slice An0 (List.length n) cn0] 44)).heap.size = w.heap.size + 1 + 1 from by simp only [World.size_alloc])
  have zb : w.heap.size + 1 < ((w.alloc (.cells #[.slice At0 (List.length t.1) ct0, .slice At1 (List.length t.2.1) ct1, .slice At2 (List.length t.2.2.1) ct2, .slice At3 (List.length t.2.2.2) ct3] 42)).alloc (.cells #[.slice An0 (List.length n) cn0] 44)).heap.size := by simp only [World.size_alloc]; omega
  obtain ⟨_, _, _, _, _, m9⟩ := Ty.rd_sl tg2
  go_enter Tryz.func40, Tryz.ntmps40
  go_wp2
  generalize ((w.alloc (.cells #[.slice At0 (List.length t.1) ct0, .slice At1 (List.length t.2.1) ct1, .slice At2 (List.length t.2.2.1) ct2, .slice At3 (List.length t.2.2.2) ct3] 42)).alloc (.cells #[.slice An0 (List.length n) cn0] 44)) = WX at kb0_0 kb0_1 kb0_2 kb0_3 kb1_0 hvb zb zb0 ⊢
  have HC : Hid (∀ V, Below WX.heap.size WX V → V.cell? ⟨w.heap.size, 0, none⟩ = some (.slice At0 (List.length t.1) ct0) ∧ V.cell? ⟨w.heap.size, 1, none⟩ = some (.slice At1 (List.length t.2.1) ct1) ∧ V.cell? ⟨w.heap.size, 2, none⟩ = some (.slice At2 (List.length t.2.2.1) ct2) ∧ V.cell? ⟨w.heap.size, 3, none⟩ = some (.slice At3 (List.length t.2.2.2) ct3) ∧ V.cell? ⟨w.heap.size + 1, 0, none⟩ = some (.slice An0 (List.length n) cn0)) := fun V hW => ⟨(hW.cell (p := ⟨w.heap.size, 0, none⟩) (by dsimp only; omega)).trans kb0_0, (hW.cell (p := ⟨w.heap.size, 1, none⟩) (by dsimp only; omega)).trans kb0_1, (hW.cell (p := ⟨w.heap.size, 2, none⟩) (by dsimp only; omega)).trans kb0_2, (hW.cell (p := ⟨w.heap.size, 3, none⟩) (by dsimp only; omega)).trans kb0_3, (hW.cell (p := ⟨w.heap.size + 1, 0, none⟩) (by dsimp only; omega)).trans kb1_0⟩
  clear kb0_0 kb0_1 kb0_2 kb0_3 kb1_0
  go_loopw [5] (fun i wr => ∃ k : Nat, k ≤ List.length t.2.2.1 ∧ i = .int .i64 k ∧ (List.take k t.2.2.1).any (nameIs n) = false ∧ Below WX.heap.size WX wr) (fun i _ => List.length t.2.2.1 - (intOf i).toNat)
  case atStart => exact ⟨0, by omega, rfl, by first | rfl | simp, Below.refl _ _⟩
  case round =>
    obtain ⟨k, hk, rfl, ht, hb⟩ := hrel
    have hw : Below w.heap.size w wr := bel_trans hvb hb
    have HT := Lib.hid ht
    clear ht
    obtain ⟨j0, j1, j2, j3, j4⟩ := HC.out _ (hb)
    have zw : w.heap.size + 1 < wr.heap.size := by have := hb.size; omega
    by_cases hlt : k < List.length t.2.2.1
    · have HS := Lib.hid (any_take_succ (nameIs n) t.2.2.1 hlt)
      obtain ⟨b, o, dsa, hAa, hla, hcella, hrda⟩ := Ty.rd_at (Ty.rd_below hw tg2) hlt
      subst hAa
      obtain ⟨Aa0, ca0, rfl⟩ := Ty.rd_slv hrda
      have e0 : wr.cell? ⟨b, o + k, none⟩ = some (.slice Aa0 (List.length (t.2.2.1)[k]) ca0) := by simpa [Ty.sz] using hcella 0 (by decide)
      clear hcella hla
      have i0 : (0 : Int) ≤ (k : Int) := by omega
      have i1 : (k : Int) < (List.length t.2.2.1 : Int) := by omega
      go_wp2_with fail
      set_option maxRecDepth 100000 in go_still_tail 6, (by kernel_rfl)
      go_wp2_with fail
      refine (C_spec_EqualNames _ _ _ _ _ (Ty.rd_below (by repeat' (first | (with_reducible exact Below.refl _ _) | (with_reducible assumption) | (with_reducible refine bel_set ?_ (by (try dsimp only); omega) _) | (with_reducible refine bel_alloc ?_ _) | (with_reducible refine bel_drewN ?_ _) | (with_reducible refine bel_drew ?_))) hrda) (Ty.rd_below (bel_drew hw) h2)).mono ?_
      rintro e w1 ⟨rfl, hb1⟩
      have hb2 : Below WX.heap.size WX w1 := bel_trans (bel_drew hb) hb1
      cases hq : decide ((t.2.2.1)[k] = n)
      · have HQ := Lib.hid (show nameIs n (t.2.2.1)[k] = false from hq)
        clear hq
        go_wp2
        go_roundw
        case rel => exact ⟨k + 1, by omega, by go_num, by rw [HS.out, HT.out, HQ.out]; rfl, hb2⟩
        case measure => simp [intOf]; omega
      · have HQ := Lib.hid (any_true_of (nameIs n) t.2.2.1 hlt hq)
        clear hq
        go_wp2
        go_ret
        exact ⟨ret_bool (by rw [HF.out, HQ.out]), bel_trans hvb hb2⟩
    · have HE : Hid (List.any t.2.2.1 (nameIs n) = false) := by have := HT.out; rwa [List.take_of_length_le (by omega)] at this
      go_wp2
      go_ret
      exact ⟨ret_bool (by rw [HF.out, HE.out]), hw⟩
set_option maxHeartbeats 1000000 in
theorem C_impl_IsAnchor1 (W : World) (ds : List Value) (x n : List (List UInt8)) (A2 : Option Addr) (c2 b : Nat) (h1 : Ty.rd W (.sl .str) ds x) (k0 : W.cell? ⟨b, 0, none⟩ = some (.slice A2 n.length c2)) (h2 : (Ty.sl .str).rd W [.slice A2 n.length c2] n) :
    Calls Tryz.prog 72 #[.agg ds.toArray, .pointer (some ⟨b, 0, none⟩)] W (RetB W (nameIs n x)) := by
  obtain ⟨A1, c1, rfl⟩ := Ty.rd_slv h1
  have hlt : b < W.heap.size := World.block_lt_of_cell? W _ k0
  go_enter Tryz.func72, Tryz.ntmps72
  go_wp2_with fail
  refine (C_impl_EqualNames _ _ _ _ _ (Ty.rd_below (by repeat' (first | (with_reducible exact Below.refl _ _) | (with_reducible assumption) | (with_reducible refine bel_set ?_ (by (try dsimp only); omega) _) | (with_reducible refine bel_alloc ?_ _) | (with_reducible refine bel_drewN ?_ _) | (with_reducible refine bel_drew ?_))) h1) (Ty.rd_below (by repeat' (first | (with_reducible exact Below.refl _ _) | (with_reducible assumption) | (with_reducible refine bel_set ?_ (by (try dsimp only); omega) _) | (with_reducible refine bel_alloc ?_ _) | (with_reducible refine bel_drewN ?_ _) | (with_reducible refine bel_drew ?_))) h2)).mono ?_
  rintro e w1 ⟨rfl, hb1⟩
  go_wp2
  go_ret
  exact ⟨rfl, (by (repeat' (first | (with_reducible exact Below.refl _ _) | (with_reducible assumption) | (with_reducible refine bel_set ?_ (by (try dsimp only); omega) _) | (with_reducible refine bel_alloc ?_ _) | (with_reducible refine bel_drewN ?_ _) | (with_reducible refine bel_drew ?_) | (with_reducible refine bel_trans ?_ (by assumption)))); done)⟩
set_option maxHeartbeats 1000000 in
theorem C_impl_IsAnchor (w : World) (cs1 : List Value) (t : tTrustPolicy.D) (cs2 : List Value) (n : List (List UInt8)) (h1 : tTrustPolicy.rd w cs1 t) (h2 : (Ty.sl .str).rd w cs2 n) (s0 : Ty.bulk tTrustPolicy t ≤ 1048576) (s1 : Ty.bulk (.sl .str) n ≤ 1048576) :
    Calls Tryz.prog 50 #[.agg cs1.toArray, .agg cs2.toArray] w (RetB w (f_IsAnchor t n)) := by
  obtain ⟨At0, ct0, At1, ct1, At2, ct2, At3, ct3, rfl, tg0, tg1, tg2, tg3⟩ := rd_TrustPolicy h1
  obtain ⟨An0, cn0, rfl⟩ := Ty.rd_slv h2
  have HF := Lib.hid (show f_IsAnchor t n = List.any t.2.2.1 (nameIs n) from rfl)
  have kb0_0 : ((w.alloc (.cells #[.slice At0 (List.length t.1) ct0, .slice At1 (List.length t.2.1) ct1, .slice At2 (List.length t.2.2.1) ct2, .slice At3 (List.length t.2.2.2) ct3] 42)).alloc (.cells #[.slice An0 (List.length n) cn0] 44)).cell? ⟨w.heap.size, 0, none⟩ = some (.slice At0 (List.length t.1) ct0) := ((World.cell?_alloc_lt _ _ _ (by simp only [World.size_alloc]; omega)).trans (cell_new w _ _ 0 (by first | rfl | simp only [World.size_alloc])))
  have kb0_1 : ((w.alloc (.cells #[.slice At0 (List.length t.1) ct0, .slice At1 (List.length t.2.1) ct1, .slice At2 (List.length t.2.2.1) ct2, .slice At3 (List.length t.2.2.2) ct3] 42)).alloc (.cells #[.slice An0 (List.length n) cn0] 44)).cell? ⟨w.heap.size, 1, none⟩ = some (.slice At1 (List.length t.2.1) ct1) := ((World.cell?_alloc_lt _ _ _ (by simp only [World.size_alloc]; omega)).trans (cell_new w _ _ 1 (by first | rfl | simp only [World.size_alloc])))
  have kb0_2 : ((w.alloc (.cells #[.slice At0 (List.length t.1) ct0, .slice At1 (List.length t.2.1) ct1, .slice At2 (List.length t.2.2.1) ct2, .slice At3 (List.length t.2.2.2) ct3] 42)).alloc (.cells #[.slice An0 (List.length n) cn0] 44)).cell? ⟨w.heap.size, 2, none⟩ = some (.slice At2 (List.length t.2.2.1) ct2) := ((World.cell?_alloc_lt _ _ _ (by simp only [World.size_alloc]; omega)).trans (cell_new w _ _ 2 (by first | rfl | simp only [World.size_alloc])))
  have kb0_3 : ((w.alloc (.cells #[.slice At0 (List.length t.1) ct0, .slice At1 (List.length t.2.1) ct1, .slice At2 (List.length t.2.2.1) ct2, .slice At3 (List.length t.2.2.2) ct3] 42)).alloc (.cells #[.slice An0 (List.length n) cn0] 44)).cell? ⟨w.heap.size, 3, none⟩ = some (.slice At3 (List.length t.2.2.2) ct3) := ((World.cell?_alloc_lt _ _ _ (by simp only [World.size_alloc]; omega)).trans (cell_new w _ _ 3 (by first | rfl | simp only [World.size_alloc])))
  have kb1_0 : ((w.alloc (.cells #[.slice At0 (List.length t.1) ct0, .slice At1 (List.length t.2.1) ct1, .slice At2 (List.length t.2.2.1) ct2, .slice At3 (List.length t.2.2.2) ct3] 42)).alloc (.cells #[.slice An0 (List.length n) cn0] 44)).cell? ⟨w.heap.size + 1, 0, none⟩ = some (.slice An0 (List.length n) cn0) := (cell_new (w.alloc (.cells #[.slice At0 (List.length t.1) ct0, .slice At1 (List.length t.2.1) ct1, .slice At2 (List.length t.2.2.1) ct2, .slice At3 (List.length t.2.2.2) ct3] 42)) _ _ 0 (by first | rfl | simp only [World.size_alloc]))
  have hvb : Below w.heap.size w ((w.alloc (.cells #[.slice At0 (List.length t.1) ct0, .slice At1 (List.length t.2.1) ct1, .slice At2 (List.length t.2.2.1) ct2, .slice At3 (List.length t.2.2.2) ct3] 42)).alloc (.cells #[.slice An0 (List.length n) cn0] 44)) := (by repeat' (first | (with_reducible exact Below.refl _ _) | (with_reducible assumption) | (with_reducible refine bel_set ?_ (by (try dsimp only); omega) _) | (with_reducible refine bel_alloc ?_ _) | (with_reducible refine bel_drewN ?_ _) | (with_reducible refine bel_drew ?_)))
  have zb0 := Lib.hid (show ((w.alloc (.cells #[.slice At0 (List.length t.1) ct0, .slice At1 (List.length t.2.1) ct1, .slice At2 (List.length t.2.2.1) ct2, .slice At3 (List.length t.2.2.2) ct3] 42)).alloc (.cells #[.slice An0 (List.length n) cn0] 44)).heap.size = w.heap.size + 1 + 1 from by simp only [World.size_alloc])
  have zb : w.heap.size + 1 < ((w.alloc (.cells #[.slice At0 (List.length t.1) ct0, .slice At1 (List.length t.2.1) ct1, .slice At2 (List.length t.2.2.1) ct2, .slice At3 (List.length t.2.2.2) ct3] 42)).alloc (.cells #[.slice An0 (List.length n) cn0] 44)).heap.size := by simp only [World.size_alloc]; omega
  have hmf := hmf_ (P := Tryz.prog)
  go_enter Tryz.func50, Tryz.ntmps50
  go_wp2_with fail
  generalize ((w.alloc (.cells #[.slice At0 (List.length t.1) ct0, .slice At1 (List.length t.2.1) ct1, .slice At2 (List.length t.2.2.1) ct2, .slice At3 (List.length t.2.2.2) ct3] 42)).alloc (.cells #[.slice An0 (List.length n) cn0] 44)) = WX at kb0_0 kb0_1 kb0_2 kb0_3 kb1_0 hvb zb zb0 ⊢
  have HC : Hid (∀ V, Below WX.heap.size WX V → V.cell? ⟨w.heap.size, 0, none⟩ = some (.slice At0 (List.length t.1) ct0) ∧ V.cell? ⟨w.heap.size, 1, none⟩ = some (.slice At1 (List.length t.2.1) ct1) ∧ V.cell? ⟨w.heap.size, 2, none⟩ = some (.slice At2 (List.length t.2.2.1) ct2) ∧ V.cell? ⟨w.heap.size, 3, none⟩ = some (.slice At3 (List.length t.2.2.2) ct3) ∧ V.cell? ⟨w.heap.size + 1, 0, none⟩ = some (.slice An0 (List.length n) cn0)) := fun V hW => ⟨(hW.cell (p := ⟨w.heap.size, 0, none⟩) (by dsimp only; omega)).trans kb0_0, (hW.cell (p := ⟨w.heap.size, 1, none⟩) (by dsimp only; omega)).trans kb0_1, (hW.cell (p := ⟨w.heap.size, 2, none⟩) (by dsimp only; omega)).trans kb0_2, (hW.cell (p := ⟨w.heap.size, 3, none⟩) (by dsimp only; omega)).trans kb0_3, (hW.cell (p := ⟨w.heap.size + 1, 0, none⟩) (by dsimp only; omega)).trans kb1_0⟩
  clear kb0_0 kb0_1 kb0_2 kb0_3 kb1_0
  refine (C_ContainsFunc_Name _ _ t.2.2.1 (nameIs n) 72 #[.pointer (some ⟨w.heap.size + 1, 0, none⟩)] (enters_of Tryz.func72 (by kernel_rfl) rfl) (Ty.rd_below hvb tg2) (fun W ds d hd hr hW => C_impl_IsAnchor1 W ds d n _ _ (w.heap.size + 1) hr (HC.out W hW).2.2.2.2 (Ty.rd_below (bel_trans hvb hW) h2))).mono ?_
  rintro e w1 ⟨rfl, hb1⟩
  go_wp2
  go_ret
  exact ⟨rfl, bel_trans hvb hb1⟩
end Go.Proofs.YtpjnidfdkggpfaaGreat
