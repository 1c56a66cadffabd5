/- Texts of this claim, merged by a program: Ral. -/
import Derived.Test.YtldgbnlcnlfmeaaGreatMf9
/- Which rule allows: the walks. Printed by gen15.py. -/
namespace Go.Proofs.YtldgbnlcnlfmeaaGreat
open Go.RowKit
set_option linter.unusedVariables false
set_option linter.unusedSimpArgs false

def f_RuleAllows (r : tRule.D) (n q : List (List UInt8)) : Bool := validRule r && (f_Match r.1 n []).2 && (f_Match r.2 q (f_Match r.1 n []).1).2
def f_FirstAllowingRule (x : List (Ty.D tRule)) (n q : List (List UInt8)) : Int := ixf (fun r => f_RuleAllows r n q) x
def f_Allowed (x : List (Ty.D tRule)) (n q : List (List UInt8)) : Bool := x.any (fun r => f_RuleAllows r n q)
theorem rd_nil0 (w : World) {e : Ty} (A : Option Addr) : (Ty.sl e).rd w [.slice A 0 0] [] := ⟨A, 0, rfl, Nat.le_refl _, ⟨Nat.zero_le _, fun _ => rfl⟩, by simp, fun h => absurd h (by simp)⟩
set_option maxRecDepth 100000 in
set_option maxHeartbeats 4000000 in
theorem C_spec_RuleAllows (w : World) (cs1 : List Value) (r : tRule.D) (cs2 : List Value) (n : List (List UInt8)) (cs3 : List Value) (q : List (List UInt8)) (h1 : tRule.rd w cs1 r) (h2 : (Ty.sl .str).rd w cs2 n) (h3 : (Ty.sl .str).rd w cs3 q) (s0 : Ty.bulk tRule r ≤ 1048576) (s1 : Ty.bulk (.sl .str) n ≤ 1048576) (s2 : Ty.bulk (.sl .str) q ≤ 1048576) :
    Calls Tryz.prog 148 #[.agg cs1.toArray, .agg cs2.toArray, .agg cs3.toArray] w (RetB w (f_RuleAllows r n q)) := by
  have h1' := h1
  obtain ⟨A0, c0, A1, c1, rfl, g0, g1⟩ := rd_Rule h1
  obtain ⟨A2, c2, rfl⟩ := Ty.rd_slv h2
  obtain ⟨A3, c3, rfl⟩ := Ty.rd_slv h3
  have hF : f_RuleAllows r n q = (validRule r && (f_Match r.1 n []).2 && (f_Match r.2 q (f_Match r.1 n []).1).2) := rfl
  have hlen : (f_Match r.1 n []).1.length ≤ 0 + 6 := match_len r.1 n []
  have kb0 : (((w.alloc (.cells #[.slice A0 (List.length r.1) c0, .slice A1 (List.length r.2) c1] 128)).alloc (.cells #[.slice A2 n.length c2] 32)).alloc (.cells #[.slice A3 q.length c3] 32)).cell? ⟨w.heap.size, 0, none⟩ = some (.slice A0 (List.length r.1) c0) := (World.cell?_alloc_lt _ _ _ (by simp only [World.size_alloc]; omega)).trans ((World.cell?_alloc_lt _ _ _ (by simp only [World.size_alloc]; omega)).trans (cell_new w _ _ 0 rfl))
  have kb1 : (((w.alloc (.cells #[.slice A0 (List.length r.1) c0, .slice A1 (List.length r.2) c1] 128)).alloc (.cells #[.slice A2 n.length c2] 32)).alloc (.cells #[.slice A3 q.length c3] 32)).cell? ⟨w.heap.size, 1, none⟩ = some (.slice A1 (List.length r.2) c1) := (World.cell?_alloc_lt _ _ _ (by simp only [World.size_alloc]; omega)).trans ((World.cell?_alloc_lt _ _ _ (by simp only [World.size_alloc]; omega)).trans (cell_new w _ _ 1 rfl))
  have kb2 : (((w.alloc (.cells #[.slice A0 (List.length r.1) c0, .slice A1 (List.length r.2) c1] 128)).alloc (.cells #[.slice A2 n.length c2] 32)).alloc (.cells #[.slice A3 q.length c3] 32)).cell? ⟨w.heap.size + 1, 0, none⟩ = some (.slice A2 n.length c2) := (World.cell?_alloc_lt _ _ _ (by simp only [World.size_alloc]; omega)).trans (cell_new _ _ _ 0 (by simp only [World.size_alloc]))
  have kb3 : (((w.alloc (.cells #[.slice A0 (List.length r.1) c0, .slice A1 (List.length r.2) c1] 128)).alloc (.cells #[.slice A2 n.length c2] 32)).alloc (.cells #[.slice A3 q.length c3] 32)).cell? ⟨w.heap.size + 1 + 1, 0, none⟩ = some (.slice A3 q.length c3) := cell_new _ _ _ 0 (by simp only [World.size_alloc])
  have hvb : Below w.heap.size w (((w.alloc (.cells #[.slice A0 (List.length r.1) c0, .slice A1 (List.length r.2) c1] 128)).alloc (.cells #[.slice A2 n.length c2] 32)).alloc (.cells #[.slice A3 q.length c3] 32)) := (by repeat' (first | (with_reducible exact Below.refl _ _) | (with_reducible assumption) | (with_reducible refine bel_set ?_ (by (try dsimp only); omega) _) | (with_reducible refine bel_alloc ?_ _) | (with_reducible refine bel_drewN ?_ _) | (with_reducible refine bel_drew ?_)))
  have zb : w.heap.size + 1 + 1 < (((w.alloc (.cells #[.slice A0 (List.length r.1) c0, .slice A1 (List.length r.2) c1] 128)).alloc (.cells #[.slice A2 n.length c2] 32)).alloc (.cells #[.slice A3 q.length c3] 32)).heap.size := by simp only [World.size_alloc]; omega
  generalize f_RuleAllows r n q = F at hF ⊢
  generalize hm1 : f_Match r.1 n [] = R1 at hF hlen
  have HM1 := Lib.hid hm1
  obtain ⟨l1, t1⟩ := R1
  generalize hm2 : f_Match r.2 q l1 = R2 at hF
  have HM2 := Lib.hid hm2
  obtain ⟨l2, t2⟩ := R2
  have hF2 : F = (validRule r && t1 && t2) := by rw [hF]
  have hll : l1.length ≤ 1000000 := by dsimp only at hlen; omega
  have HF := Lib.hid hF2
  clear hF hF2 hlen hm1 hm2
  go_enter Tryz.func148, Tryz.ntmps148
  go_wp2_with fail
  generalize (((w.alloc (.cells #[.slice A0 (List.length r.1) c0, .slice A1 (List.length r.2) c1] 128)).alloc (.cells #[.slice A2 n.length c2] 32)).alloc (.cells #[.slice A3 q.length c3] 32)) = WX at kb0 kb1 kb2 kb3 hvb zb ⊢
  have HC : Hid (∀ W, Below WX.heap.size WX W → W.cell? ⟨w.heap.size, 0, none⟩ = some (.slice A0 (List.length r.1) c0) ∧ W.cell? ⟨w.heap.size, 1, none⟩ = some (.slice A1 (List.length r.2) c1) ∧ W.cell? ⟨w.heap.size + 1, 0, none⟩ = some (.slice A2 n.length c2) ∧ W.cell? ⟨w.heap.size + 1 + 1, 0, none⟩ = some (.slice A3 q.length c3)) := fun W hW => ⟨(hW.cell (p := ⟨w.heap.size, 0, none⟩) (by dsimp only; omega)).trans kb0, (hW.cell (p := ⟨w.heap.size, 1, none⟩) (by dsimp only; omega)).trans kb1, (hW.cell (p := ⟨w.heap.size + 1, 0, none⟩) (by dsimp only; omega)).trans kb2, (hW.cell (p := ⟨w.heap.size + 1 + 1, 0, none⟩) (by dsimp only; omega)).trans kb3⟩
  clear kb0 kb1 kb2 kb3
  refine (C_spec_Match _ _ r.1 _ n _ [] (Ty.rd_below (bel_trans hvb (by (repeat' (first | (with_reducible exact Below.refl _ _) | (with_reducible assumption) | (with_reducible refine bel_set ?_ (by (try dsimp only); omega) _) | (with_reducible refine bel_alloc ?_ _) | (with_reducible refine bel_drewN ?_ _) | (with_reducible refine bel_drew ?_) | (with_reducible refine bel_trans ?_ (by assumption)))); done)) g0) (Ty.rd_below (bel_trans hvb (by (repeat' (first | (with_reducible exact Below.refl _ _) | (with_reducible assumption) | (with_reducible refine bel_set ?_ (by (try dsimp only); omega) _) | (with_reducible refine bel_alloc ?_ _) | (with_reducible refine bel_drewN ?_ _) | (with_reducible refine bel_drew ?_) | (with_reducible refine bel_trans ?_ (by assumption)))); done)) h2) (rd_nil0 _ _) (by simp)).mono ?_
  rw [HM1.out]
  rintro e w1 ⟨v1, rfl, hr1, hb1⟩
  have hx1 : Below WX.heap.size WX w1 := bel_trans (by repeat' (first | (with_reducible exact Below.refl _ _) | (with_reducible assumption) | (with_reducible refine bel_set ?_ (by (try dsimp only); omega) _) | (with_reducible refine bel_alloc ?_ _) | (with_reducible refine bel_drewN ?_ _) | (with_reducible refine bel_drew ?_))) hb1
  have hw1 : Below w.heap.size w w1 := bel_trans hvb hx1
  obtain ⟨j0, j1, j2, j3⟩ := HC.out _ hx1
  go_wp2_with fail
  refine (C_spec_Match _ _ r.2 _ q _ l1 (Ty.rd_below hw1 g1) (Ty.rd_below hw1 h3) hr1 hll).mono ?_
  rw [HM2.out]
  rintro e w2 ⟨v2, rfl, hr2, hb2⟩
  have hx2 : Below WX.heap.size WX w2 := bel_trans hx1 hb2
  have hw2 : Below w.heap.size w w2 := bel_trans hvb hx2
  clear j0 j1 j2 j3
  obtain ⟨j0, j1, j2, j3⟩ := HC.out _ hx2
  go_wp2_with fail
  refine (C_spec_ValidRule _ _ r (Ty.rd_below hw2 h1') s0).mono ?_
  rintro e w3 ⟨rfl, hb3⟩
  have hw3 : Below w.heap.size w w3 := bel_trans hw2 hb3
  dsimp only at *
  cases q0 : validRule r <;> cases t1 <;> cases t2
  all_goals
    rw [q0] at HF
    go_wp2
    go_ret
    exact ⟨ret_bool (by rw [HF.out]; try rfl), hw3⟩
set_option maxRecDepth 100000 in
set_option maxHeartbeats 4000000 in
theorem C_impl_RuleAllows (w : World) (cs1 : List Value) (r : tRule.D) (cs2 : List Value) (n : List (List UInt8)) (cs3 : List Value) (q : List (List UInt8)) (h1 : tRule.rd w cs1 r) (h2 : (Ty.sl .str).rd w cs2 n) (h3 : (Ty.sl .str).rd w cs3 q) (s0 : Ty.bulk tRule r ≤ 1048576) (s1 : Ty.bulk (.sl .str) n ≤ 1048576) (s2 : Ty.bulk (.sl .str) q ≤ 1048576) :
    Calls Tryz.prog 130 #[.agg cs1.toArray, .agg cs2.toArray, .agg cs3.toArray] w (RetB w (f_RuleAllows r n q)) := by
  have h1' := h1
  obtain ⟨A0, c0, A1, c1, rfl, g0, g1⟩ := rd_Rule h1
  obtain ⟨A2, c2, rfl⟩ := Ty.rd_slv h2
  obtain ⟨A3, c3, rfl⟩ := Ty.rd_slv h3
  have hF : f_RuleAllows r n q = (validRule r && (f_Match r.1 n []).2 && (f_Match r.2 q (f_Match r.1 n []).1).2) := rfl
  have hlen : (f_Match r.1 n []).1.length ≤ 0 + 6 := match_len r.1 n []
  have kb0 : (((w.alloc (.cells #[.slice A0 (List.length r.1) c0, .slice A1 (List.length r.2) c1] 128)).alloc (.cells #[.slice A2 n.length c2] 32)).alloc (.cells #[.slice A3 q.length c3] 32)).cell? ⟨w.heap.size, 0, none⟩ = some (.slice A0 (List.length r.1) c0) := (World.cell?_alloc_lt _ _ _ (by simp only [World.size_alloc]; omega)).trans ((World.cell?_alloc_lt _ _ _ (by simp only [World.size_alloc]; omega)).trans (cell_new w _ _ 0 rfl))
  have kb1 : (((w.alloc (.cells #[.slice A0 (List.length r.1) c0, .slice A1 (List.length r.2) c1] 128)).alloc (.cells #[.slice A2 n.length c2] 32)).alloc (.cells #[.slice A3 q.length c3] 32)).cell? ⟨w.heap.size, 1, none⟩ = some (.slice A1 (List.length r.2) c1) := (World.cell?_alloc_lt _ _ _ (by simp only [World.size_alloc]; omega)).trans ((World.cell?_alloc_lt _ _ _ (by simp only [World.size_alloc]; omega)).trans (cell_new w _ _ 1 rfl))
  have kb2 : (((w.alloc (.cells #[.slice A0 (List.length r.1) c0, .slice A1 (List.length r.2) c1] 128)).alloc (.cells #[.slice A2 n.length c2] 32)).alloc (.cells #[.slice A3 q.length c3] 32)).cell? ⟨w.heap.size + 1, 0, none⟩ = some (.slice A2 n.length c2) := (World.cell?_alloc_lt _ _ _ (by simp only [World.size_alloc]; omega)).trans (cell_new _ _ _ 0 (by simp only [World.size_alloc]))
  have kb3 : (((w.alloc (.cells #[.slice A0 (List.length r.1) c0, .slice A1 (List.length r.2) c1] 128)).alloc (.cells #[.slice A2 n.length c2] 32)).alloc (.cells #[.slice A3 q.length c3] 32)).cell? ⟨w.heap.size + 1 + 1, 0, none⟩ = some (.slice A3 q.length c3) := cell_new _ _ _ 0 (by simp only [World.size_alloc])
  have hvb : Below w.heap.size w (((w.alloc (.cells #[.slice A0 (List.length r.1) c0, .slice A1 (List.length r.2) c1] 128)).alloc (.cells #[.slice A2 n.length c2] 32)).alloc (.cells #[.slice A3 q.length c3] 32)) := (by repeat' (first | (with_reducible exact Below.refl _ _) | (with_reducible assumption) | (with_reducible refine bel_set ?_ (by (try dsimp only); omega) _) | (with_reducible refine bel_alloc ?_ _) | (with_reducible refine bel_drewN ?_ _) | (with_reducible refine bel_drew ?_)))
  have zb : w.heap.size + 1 + 1 < (((w.alloc (.cells #[.slice A0 (List.length r.1) c0, .slice A1 (List.length r.2) c1] 128)).alloc (.cells #[.slice A2 n.length c2] 32)).alloc (.cells #[.slice A3 q.length c3] 32)).heap.size := by simp only [World.size_alloc]; omega
  generalize f_RuleAllows r n q = F at hF ⊢
  generalize hm1 : f_Match r.1 n [] = R1 at hF hlen
  have HM1 := Lib.hid hm1
  obtain ⟨l1, t1⟩ := R1
  generalize hm2 : f_Match r.2 q l1 = R2 at hF
  have HM2 := Lib.hid hm2
  obtain ⟨l2, t2⟩ := R2
  have hF2 : F = (validRule r && t1 && t2) := by rw [hF]
  have hll : l1.length ≤ 1000000 := by dsimp only at hlen; omega
  have HF := Lib.hid hF2
  clear hF hF2 hlen hm1 hm2
  go_enter Tryz.func130, Tryz.ntmps130
  go_wp2_with fail
  generalize (((w.alloc (.cells #[.slice A0 (List.length r.1) c0, .slice A1 (List.length r.2) c1] 128)).alloc (.cells #[.slice A2 n.length c2] 32)).alloc (.cells #[.slice A3 q.length c3] 32)) = WX at kb0 kb1 kb2 kb3 hvb zb ⊢
  have HC : Hid (∀ W, Below WX.heap.size WX W → W.cell? ⟨w.heap.size, 0, none⟩ = some (.slice A0 (List.length r.1) c0) ∧ W.cell? ⟨w.heap.size, 1, none⟩ = some (.slice A1 (List.length r.2) c1) ∧ W.cell? ⟨w.heap.size + 1, 0, none⟩ = some (.slice A2 n.length c2) ∧ W.cell? ⟨w.heap.size + 1 + 1, 0, none⟩ = some (.slice A3 q.length c3)) := fun W hW => ⟨(hW.cell (p := ⟨w.heap.size, 0, none⟩) (by dsimp only; omega)).trans kb0, (hW.cell (p := ⟨w.heap.size, 1, none⟩) (by dsimp only; omega)).trans kb1, (hW.cell (p := ⟨w.heap.size + 1, 0, none⟩) (by dsimp only; omega)).trans kb2, (hW.cell (p := ⟨w.heap.size + 1 + 1, 0, none⟩) (by dsimp only; omega)).trans kb3⟩
  clear kb0 kb1 kb2 kb3
  refine (C_impl_Match _ _ r.1 _ n _ [] (Ty.rd_below hvb g0) (Ty.rd_below hvb h2) (rd_nil0 _ _) (by simp)).mono ?_
  rw [HM1.out]
  rintro e w1 ⟨v1, rfl, hr1, hb1⟩
  have hx1 : Below WX.heap.size WX w1 := bel_trans (Below.refl _ _) hb1
  have hw1 : Below w.heap.size w w1 := bel_trans hvb hx1
  obtain ⟨j0, j1, j2, j3⟩ := HC.out _ hx1
  go_wp2_with fail
  refine (C_impl_Match _ _ r.2 _ q _ l1 (Ty.rd_below hw1 g1) (Ty.rd_below hw1 h3) hr1 hll).mono ?_
  rw [HM2.out]
  rintro e w2 ⟨v2, rfl, hr2, hb2⟩
  have hx2 : Below WX.heap.size WX w2 := bel_trans hx1 hb2
  have hw2 : Below w.heap.size w w2 := bel_trans hvb hx2
  clear j0 j1 j2 j3
  obtain ⟨j0, j1, j2, j3⟩ := HC.out _ hx2
  go_wp2_with fail
  refine (C_impl_ValidRule _ _ r (Ty.rd_below hw2 h1') s0).mono ?_
  rintro e w3 ⟨rfl, hb3⟩
  have hw3 : Below w.heap.size w w3 := bel_trans hw2 hb3
  dsimp only at *
  cases q0 : validRule r <;> cases t1 <;> cases t2
  all_goals
    rw [q0] at HF
    go_wp2
    go_ret
    exact ⟨ret_bool (by rw [HF.out]; try rfl), hw3⟩
set_option maxHeartbeats 4000000 in
theorem C_spec_FirstAllowingRule (w : World) (v : Value) (x : List (Ty.D tRule)) (cs2 : List Value) (n : List (List UInt8)) (cs3 : List Value) (q : List (List UInt8)) (h1 : (Ty.sl tRule).rd w [v] x) (h2 : (Ty.sl .str).rd w cs2 n) (h3 : (Ty.sl .str).rd w cs3 q) (s0 : Ty.bulk (.sl tRule) x ≤ 1048576) (s1 : Ty.bulk (.sl .str) n ≤ 1048576) (s2 : Ty.bulk (.sl .str) q ≤ 1048576) :
    Calls Tryz.prog 110 #[v, .agg cs2.toArray, .agg cs3.toArray] w (RetI w (f_FirstAllowingRule x n q)) := by
  obtain ⟨A1, c1, rfl, hc1, hm1, hn1⟩ := Ty.rd_sl h1
  obtain ⟨A2, c2, rfl⟩ := Ty.rd_slv h2
  obtain ⟨A3, c3, rfl⟩ := Ty.rd_slv h3
  have kb2 : ((w.alloc (.cells #[.slice A2 n.length c2] 32)).alloc (.cells #[.slice A3 q.length c3] 32)).cell? ⟨w.heap.size, 0, none⟩ = some (.slice A2 n.length c2) := (World.cell?_alloc_lt _ _ _ (by simp only [World.size_alloc]; omega)).trans (cell_new _ _ _ 0 rfl)
  have kb3 : ((w.alloc (.cells #[.slice A2 n.length c2] 32)).alloc (.cells #[.slice A3 q.length c3] 32)).cell? ⟨w.heap.size + 1, 0, none⟩ = some (.slice A3 q.length c3) := cell_new _ _ _ 0 (by simp only [World.size_alloc])
  have hvb : Below w.heap.size w ((w.alloc (.cells #[.slice A2 n.length c2] 32)).alloc (.cells #[.slice A3 q.length c3] 32)) := (by repeat' (first | (with_reducible exact Below.refl _ _) | (with_reducible assumption) | (with_reducible refine bel_set ?_ (by (try dsimp only); omega) _) | (with_reducible refine bel_alloc ?_ _) | (with_reducible refine bel_drewN ?_ _) | (with_reducible refine bel_drew ?_)))
  have zb : w.heap.size + 1 < ((w.alloc (.cells #[.slice A2 n.length c2] 32)).alloc (.cells #[.slice A3 q.length c3] 32)).heap.size := by simp only [World.size_alloc]; omega
  go_enter Tryz.func110, Tryz.ntmps110
  go_wp2
  generalize ((w.alloc (.cells #[.slice A2 n.length c2] 32)).alloc (.cells #[.slice A3 q.length c3] 32)) = WX at kb2 kb3 hvb zb ⊢
  have HC : Hid (∀ W, Below WX.heap.size WX W → W.cell? ⟨w.heap.size, 0, none⟩ = some (.slice A2 n.length c2) ∧ W.cell? ⟨w.heap.size + 1, 0, none⟩ = some (.slice A3 q.length c3)) := fun W hW => ⟨(hW.cell (p := ⟨w.heap.size, 0, none⟩) (by dsimp only; omega)).trans kb2, (hW.cell (p := ⟨w.heap.size + 1, 0, none⟩) (by dsimp only; omega)).trans kb3⟩
  clear kb2 kb3
  go_loopw [7] (fun i wr => ∃ k : Nat, k ≤ x.length ∧ i = .int .i64 k ∧ (x.take k).any (fun r => f_RuleAllows r n q) = false ∧ Below WX.heap.size WX wr) (fun i _ => x.length - (intOf i).toNat)
  case atStart => exact ⟨0, by omega, rfl, by first | rfl | simp, Below.refl _ _⟩
  case round =>
    obtain ⟨k, hk, rfl, ht, hb⟩ := hrel
    have hw : Below w.heap.size w wr := bel_trans hvb hb
    obtain ⟨j2, j3⟩ := HC.out _ hb
    have HT := Lib.hid ht
    clear ht
    by_cases hlt : k < x.length
    · have HS := Lib.hid (any_take_succ (fun r => f_RuleAllows r n q) x hlt)
      obtain ⟨b, o, ds, rfl, hl, hcell, hrd⟩ := Ty.rd_at (Ty.rd_below hw h1) hlt
      have hrd' := hrd
      obtain ⟨Aa0, ca0, Aa1, ca1, rfl, sag0, sag1⟩ := rd_Rule hrd
      have e0 : wr.cell? ⟨b, o + k * 2, none⟩ = some (.slice Aa0 (List.length x[k].1) ca0) := by simpa [Ty.sz] using hcell 0 (by decide)
      have e1 : wr.cell? ⟨b, o + k * 2 + 1, none⟩ = some (.slice Aa1 (List.length x[k].2) ca1) := by simpa [Ty.sz] using hcell 1 (by decide)
      clear hcell hl
      go_wp2_with fail
      set_option maxRecDepth 100000 in go_still_tail 6, (by kernel_rfl)
      go_wp2_with fail
      refine (C_spec_RuleAllows _ _ x[k] _ n _ q (Ty.rd_below (by repeat' (first | (with_reducible exact Below.refl _ _) | (with_reducible assumption) | (with_reducible refine bel_set ?_ (by (try dsimp only); omega) _) | (with_reducible refine bel_alloc ?_ _) | (with_reducible refine bel_drewN ?_ _) | (with_reducible refine bel_drew ?_))) hrd') (Ty.rd_below (bel_drew hw) h2) (Ty.rd_below (bel_drew hw) h3) (Ty.bulk_at s0 hlt) s1 s2).mono ?_
      rintro e w1 ⟨rfl, hb1⟩
      have hb2 : Below WX.heap.size WX w1 := bel_trans (bel_drew hb) hb1
      cases hq : f_RuleAllows x[k] n q
      · have HQ := Lib.hid hq
        go_wp2
        go_roundw
        case rel => exact ⟨k + 1, by omega, by go_num, by rw [HS.out, HT.out, HQ.out]; rfl, hb2⟩
        case measure => simp [intOf]; omega
      · have HQ := Lib.hid hq
        go_wp2
        go_ret
        exact ⟨ret_int (ixf_hit (fun r => f_RuleAllows r n q) x hlt HT.out HQ.out).symm, bel_trans hvb hb2⟩
    · have HE : Hid (x.any (fun r => f_RuleAllows r n q) = false) := by have := HT.out; rwa [List.take_of_length_le (by omega)] at this
      go_wp2
      go_ret
      exact ⟨ret_int (ixf_miss (fun r => f_RuleAllows r n q) x HE.out).symm, hw⟩
set_option maxHeartbeats 4000000 in
theorem C_impl_FirstAllowingRule1 (W : World) (ds : List Value) (r : tRule.D) (n q : List (List UInt8)) (A2 A3 : Option Addr) (c2 c3 b1 b2 : Nat) (h1 : tRule.rd W ds r) (k1 : W.cell? ⟨b1, 0, none⟩ = some (.slice A2 n.length c2)) (k2 : W.cell? ⟨b2, 0, none⟩ = some (.slice A3 q.length c3))
    (h2 : (Ty.sl .str).rd W [.slice A2 n.length c2] n) (h3 : (Ty.sl .str).rd W [.slice A3 q.length c3] q) (s0 : Ty.bulk tRule r ≤ 1048576) (s1 : Ty.bulk (.sl .str) n ≤ 1048576) (s2 : Ty.bulk (.sl .str) q ≤ 1048576) :
    Calls Tryz.prog 129 #[.agg ds.toArray, .pointer (some ⟨b1, 0, none⟩), .pointer (some ⟨b2, 0, none⟩)] W (RetB W (f_RuleAllows r n q)) := by
  have h1' := h1
  obtain ⟨A0, c0, A1, c1, rfl, g0, g1⟩ := rd_Rule h1
  have l1 : b1 < W.heap.size := World.block_lt_of_cell? W _ k1
  have l2 : b2 < W.heap.size := World.block_lt_of_cell? W _ k2
  go_enter Tryz.func129, Tryz.ntmps129
  go_wp2_with fail
  refine (C_impl_RuleAllows _ _ r _ n _ q (Ty.rd_below (by repeat' (first | (with_reducible exact Below.refl _ _) | (with_reducible assumption) | (with_reducible refine bel_set ?_ (by (try dsimp only); omega) _) | (with_reducible refine bel_alloc ?_ _) | (with_reducible refine bel_drewN ?_ _) | (with_reducible refine bel_drew ?_))) h1') (Ty.rd_below (by repeat' (first | (with_reducible exact Below.refl _ _) | (with_reducible assumption) | (with_reducible refine bel_set ?_ (by (try dsimp only); omega) _) | (with_reducible refine bel_alloc ?_ _) | (with_reducible refine bel_drewN ?_ _) | (with_reducible refine bel_drew ?_))) h2) (Ty.rd_below (by repeat' (first | (with_reducible exact Below.refl _ _) | (with_reducible assumption) | (with_reducible refine bel_set ?_ (by (try dsimp only); omega) _) | (with_reducible refine bel_alloc ?_ _) | (with_reducible refine bel_drewN ?_ _) | (with_reducible refine bel_drew ?_))) h3) s0 s1 s2).mono ?_
  rintro e w1 ⟨rfl, hb1⟩
  go_wp2
  go_ret
  exact ⟨rfl, (by (repeat' (first | (with_reducible exact Below.refl _ _) | (with_reducible assumption) | (with_reducible refine bel_set ?_ (by (try dsimp only); omega) _) | (with_reducible refine bel_alloc ?_ _) | (with_reducible refine bel_drewN ?_ _) | (with_reducible refine bel_drew ?_) | (with_reducible refine bel_trans ?_ (by assumption)))); done)⟩
set_option maxHeartbeats 4000000 in
theorem C_impl_FirstAllowingRule (w : World) (v : Value) (x : List (Ty.D tRule)) (cs2 : List Value) (n : List (List UInt8)) (cs3 : List Value) (q : List (List UInt8)) (h1 : (Ty.sl tRule).rd w [v] x) (h2 : (Ty.sl .str).rd w cs2 n) (h3 : (Ty.sl .str).rd w cs3 q) (s0 : Ty.bulk (.sl tRule) x ≤ 1048576) (s1 : Ty.bulk (.sl .str) n ≤ 1048576) (s2 : Ty.bulk (.sl .str) q ≤ 1048576) :
    Calls Tryz.prog 88 #[v, .agg cs2.toArray, .agg cs3.toArray] w (RetI w (f_FirstAllowingRule x n q)) := by
  obtain ⟨A2, c2, rfl⟩ := Ty.rd_slv h2
  obtain ⟨A3, c3, rfl⟩ := Ty.rd_slv h3
  have kb2 : ((w.alloc (.cells #[.slice A2 n.length c2] 32)).alloc (.cells #[.slice A3 q.length c3] 32)).cell? ⟨w.heap.size, 0, none⟩ = some (.slice A2 n.length c2) := (World.cell?_alloc_lt _ _ _ (by simp only [World.size_alloc]; omega)).trans (cell_new _ _ _ 0 rfl)
  have kb3 : ((w.alloc (.cells #[.slice A2 n.length c2] 32)).alloc (.cells #[.slice A3 q.length c3] 32)).cell? ⟨w.heap.size + 1, 0, none⟩ = some (.slice A3 q.length c3) := cell_new _ _ _ 0 (by simp only [World.size_alloc])
  have hvb : Below w.heap.size w ((w.alloc (.cells #[.slice A2 n.length c2] 32)).alloc (.cells #[.slice A3 q.length c3] 32)) := (by repeat' (first | (with_reducible exact Below.refl _ _) | (with_reducible assumption) | (with_reducible refine bel_set ?_ (by (try dsimp only); omega) _) | (with_reducible refine bel_alloc ?_ _) | (with_reducible refine bel_drewN ?_ _) | (with_reducible refine bel_drew ?_)))
  have zb : w.heap.size + 1 < ((w.alloc (.cells #[.slice A2 n.length c2] 32)).alloc (.cells #[.slice A3 q.length c3] 32)).heap.size := by simp only [World.size_alloc]; omega
  have hmf := hmf_ (P := Tryz.prog)
  go_enter Tryz.func88, Tryz.ntmps88
  go_wp2_with fail
  generalize ((w.alloc (.cells #[.slice A2 n.length c2] 32)).alloc (.cells #[.slice A3 q.length c3] 32)) = WX at kb2 kb3 hvb zb ⊢
  refine (C_IndexFunc_Rule _ _ x (fun r => f_RuleAllows r n q) 129 #[.pointer (some ⟨w.heap.size, 0, none⟩), .pointer (some ⟨w.heap.size + 1, 0, none⟩)] (enters_of Tryz.func129 (by kernel_rfl) rfl) (Ty.rd_below hvb h1) (fun W ds d hd hr hW => ?_)).mono ?_
  · obtain ⟨i, hi, rfl⟩ := List.getElem_of_mem hd
    exact C_impl_FirstAllowingRule1 W ds x[i] n q A2 A3 c2 c3 w.heap.size (w.heap.size + 1) hr ((hW.cell (p := ⟨w.heap.size, 0, none⟩) (by dsimp only; omega)).trans kb2) ((hW.cell (p := ⟨w.heap.size + 1, 0, none⟩) (by dsimp only; omega)).trans kb3) (Ty.rd_below (bel_trans hvb hW) h2) (Ty.rd_below (bel_trans hvb hW) h3) (Ty.bulk_at s0 hi) s1 s2
  rintro e w1 ⟨rfl, hb1⟩
  go_wp2
  go_ret
  exact ⟨rfl, bel_trans hvb hb1⟩
set_option maxHeartbeats 4000000 in
theorem C_spec_Allowed (w : World) (v : Value) (x : List (Ty.D tRule)) (cs2 : List Value) (n : List (List UInt8)) (cs3 : List Value) (q : List (List UInt8)) (h1 : (Ty.sl tRule).rd w [v] x) (h2 : (Ty.sl .str).rd w cs2 n) (h3 : (Ty.sl .str).rd w cs3 q) (s0 : Ty.bulk (.sl tRule) x ≤ 1048576) (s1 : Ty.bulk (.sl .str) n ≤ 1048576) (s2 : Ty.bulk (.sl .str) q ≤ 1048576) :
    Calls Tryz.prog 56 #[v, .agg cs2.toArray, .agg cs3.toArray] w (RetB w (f_Allowed x n q)) := by
  obtain ⟨A2, c2, rfl⟩ := Ty.rd_slv h2
  obtain ⟨A3, c3, rfl⟩ := Ty.rd_slv h3
  go_enter Tryz.func56, Tryz.ntmps56
  go_wp2_with fail
  refine (C_spec_FirstAllowingRule _ _ x _ n _ q (Ty.rd_below (by repeat' (first | (with_reducible exact Below.refl _ _) | (with_reducible assumption) | (with_reducible refine bel_set ?_ (by (try dsimp only); omega) _) | (with_reducible refine bel_alloc ?_ _) | (with_reducible refine bel_drewN ?_ _) | (with_reducible refine bel_drew ?_))) h1) (Ty.rd_below (by repeat' (first | (with_reducible exact Below.refl _ _) | (with_reducible assumption) | (with_reducible refine bel_set ?_ (by (try dsimp only); omega) _) | (with_reducible refine bel_alloc ?_ _) | (with_reducible refine bel_drewN ?_ _) | (with_reducible refine bel_drew ?_))) h2) (Ty.rd_below (by repeat' (first | (with_reducible exact Below.refl _ _) | (with_reducible assumption) | (with_reducible refine bel_set ?_ (by (try dsimp only); omega) _) | (with_reducible refine bel_alloc ?_ _) | (with_reducible refine bel_drewN ?_ _) | (with_reducible refine bel_drew ?_))) h3) s0 s1 s2).mono ?_
  rintro e w1 ⟨rfl, hb1⟩
  go_wp2
  go_ret
  exact ⟨ret_bool (ixf_ge (fun r => f_RuleAllows r n q) x), (by (repeat' (first | (with_reducible exact Below.refl _ _) | (with_reducible assumption) | (with_reducible refine bel_set ?_ (by (try dsimp only); omega) _) | (with_reducible refine bel_alloc ?_ _) | (with_reducible refine bel_drewN ?_ _) | (with_reducible refine bel_drew ?_) | (with_reducible refine bel_trans ?_ (by assumption)))); done)⟩
set_option maxHeartbeats 4000000 in
theorem C_impl_Allowed (w : World) (v : Value) (x : List (Ty.D tRule)) (cs2 : List Value) (n : List (List UInt8)) (cs3 : List Value) (q : List (List UInt8)) (h1 : (Ty.sl tRule).rd w [v] x) (h2 : (Ty.sl .str).rd w cs2 n) (h3 : (Ty.sl .str).rd w cs3 q) (s0 : Ty.bulk (.sl tRule) x ≤ 1048576) (s1 : Ty.bulk (.sl .str) n ≤ 1048576) (s2 : Ty.bulk (.sl .str) q ≤ 1048576) :
    Calls Tryz.prog 30 #[v, .agg cs2.toArray, .agg cs3.toArray] w (RetB w (f_Allowed x n q)) := by
  obtain ⟨A2, c2, rfl⟩ := Ty.rd_slv h2
  obtain ⟨A3, c3, rfl⟩ := Ty.rd_slv h3
  go_enter Tryz.func30, Tryz.ntmps30
  go_wp2_with fail
  refine (C_impl_FirstAllowingRule _ _ x _ n _ q (Ty.rd_below (by repeat' (first | (with_reducible exact Below.refl _ _) | (with_reducible assumption) | (with_reducible refine bel_set ?_ (by (try dsimp only); omega) _) | (with_reducible refine bel_alloc ?_ _) | (with_reducible refine bel_drewN ?_ _) | (with_reducible refine bel_drew ?_))) h1) (Ty.rd_below (by repeat' (first | (with_reducible exact Below.refl _ _) | (with_reducible assumption) | (with_reducible refine bel_set ?_ (by (try dsimp only); omega) _) | (with_reducible refine bel_alloc ?_ _) | (with_reducible refine bel_drewN ?_ _) | (with_reducible refine bel_drew ?_))) h2) (Ty.rd_below (by repeat' (first | (with_reducible exact Below.refl _ _) | (with_reducible assumption) | (with_reducible refine bel_set ?_ (by (try dsimp only); omega) _) | (with_reducible refine bel_alloc ?_ _) | (with_reducible refine bel_drewN ?_ _) | (with_reducible refine bel_drew ?_))) h3) s0 s1 s2).mono ?_
  rintro e w1 ⟨rfl, hb1⟩
  go_wp2
  go_ret
  exact ⟨ret_bool (ixf_ge (fun r => f_RuleAllows r n q) x), (by (repeat' (first | (with_reducible exact Below.refl _ _) | (with_reducible assumption) | (with_reducible refine bel_set ?_ (by (try dsimp only); omega) _) | (with_reducible refine bel_alloc ?_ _) | (with_reducible refine bel_drewN ?_ _) | (with_reducible refine bel_drew ?_) | (with_reducible refine bel_trans ?_ (by assumption)))); done)⟩
end Go.Proofs.YtldgbnlcnlfmeaaGreat
