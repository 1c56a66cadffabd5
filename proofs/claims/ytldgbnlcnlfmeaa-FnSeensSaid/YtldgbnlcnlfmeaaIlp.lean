/- A loop is seen. Printed by gen19.py. -/
import Derived.Test.YtldgbnlcnlfmeaaDat
import Derived.Test.YtldgbnlcnlfmeaaIxf
import Derived.Test.YtldgbnlcnlfmeaaStp
import Derived.Test.YtldgbnlcnlfmeaaNb
import Derived.Deep.QuietTactic
import Derived.BigQuiet
namespace Go.Proofs.Ytldgbnlcnlfmeaa
open Go.RowKit
set_option linter.unusedVariables false
set_option linter.unusedSimpArgs false

def nonceIs (a : Int) (r : Ty.D tRequester) : Bool := decide (r.2.1 = a)
def askedBy (q : tInterest.D) (p : Ty.D tPendingInterest) : Bool := decide (p.1 = q.1) && p.2.1.any (nonceIs q.2.1)
def seenBy (q : tInterest.D) (x : Ty.D tSeenNonce) : Bool := decide (x.1 = q.1) && decide (x.2 = q.2.1)
def f_IsLoop (l : List (Ty.D tPendingInterest)) (s : List (Ty.D tSeenNonce)) (q : tInterest.D) : Bool := l.any (askedBy q) || s.any (seenBy q)
set_option maxHeartbeats 1000000 in
theorem C_impl_IsLoop1 (W : World) (ds : List Value) (r : Ty.D tRequester) (a : Int) (b : Nat) (h1 : tRequester.rd W ds r) (hcell : W.cell? ⟨b, 1, none⟩ = some (.int .i64 a)) :
    Calls Try.prog 76 #[.agg ds.toArray, .pointer (some ⟨b, 0, none⟩)] W (RetB W (nonceIs a r)) := by
  obtain ⟨rfl, q0, q1, q2⟩ := rd_Requester h1
  have hlt : b < W.heap.size := World.block_lt_of_cell? W _ hcell
  cases hq : (r.2.1 == a)
  · have HQ : Hid (nonceIs a r = false) := by show _ = _; unfold nonceIs; simpa using hq
    go_enter Try.func76, Try.ntmps76
    go_wp2
    go_ret
    exact ⟨ret_bool HQ.out.symm, (by repeat' (first | (with_reducible exact Below.refl _ _) | (with_reducible assumption) | (with_reducible refine bel_set ?_ (by (try dsimp only); omega) _) | (with_reducible refine bel_alloc ?_ _) | (with_reducible refine bel_drewN ?_ _) | (with_reducible refine bel_drew ?_)))⟩
  · have HQ : Hid (nonceIs a r = true) := by show _ = _; unfold nonceIs; simpa using hq
    go_enter Try.func76, Try.ntmps76
    go_wp2
    go_ret
    exact ⟨ret_bool HQ.out.symm, (by repeat' (first | (with_reducible exact Below.refl _ _) | (with_reducible assumption) | (with_reducible refine bel_set ?_ (by (try dsimp only); omega) _) | (with_reducible refine bel_alloc ?_ _) | (with_reducible refine bel_drewN ?_ _) | (with_reducible refine bel_drew ?_)))⟩
set_option maxHeartbeats 1000000 in
theorem C_impl_IsLoop2 (W : World) (ds : List Value) (x : Ty.D tSeenNonce) (q : tInterest.D) (A2 : Option Addr) (c2 b : Nat) (h1 : tSeenNonce.rd W ds x) (k0 : W.cell? ⟨b, 0, none⟩ = some (.slice A2 (List.length q.1) c2)) (k1 : W.cell? ⟨b, 1, none⟩ = some (.int .i64 q.2.1)) (h2 : (Ty.sl .str).rd W [.slice A2 (List.length q.1) c2] q.1) :
    Calls Try.prog 78 #[.agg ds.toArray, .pointer (some ⟨b, 0, none⟩)] W (RetB W (seenBy q x)) := by
  obtain ⟨Aa0, ca0, rfl, sag0, sag1⟩ := rd_SeenNonce h1
  have hlt : b < W.heap.size := World.block_lt_of_cell? W _ k0
  have HF := Lib.hid (show seenBy q x = (decide (x.1 = q.1) && decide (x.2 = q.2.1)) from rfl)
  cases hq : (x.2 == q.2.1)
  · have HQ : Hid (decide (x.2 = q.2.1) = false) := by show _ = _; simpa using hq
    go_enter Try.func78, Try.ntmps78
    go_wp2_with fail
    refine (C_impl_EqualNames _ _ _ _ _ (Ty.rd_below (by repeat' (first | (with_reducible exact Below.refl _ _) | (with_reducible assumption) | (with_reducible refine bel_set ?_ (by (try dsimp only); omega) _) | (with_reducible refine bel_alloc ?_ _) | (with_reducible refine bel_drewN ?_ _) | (with_reducible refine bel_drew ?_))) sag0) (Ty.rd_below (by repeat' (first | (with_reducible exact Below.refl _ _) | (with_reducible assumption) | (with_reducible refine bel_set ?_ (by (try dsimp only); omega) _) | (with_reducible refine bel_alloc ?_ _) | (with_reducible refine bel_drewN ?_ _) | (with_reducible refine bel_drew ?_))) h2)).mono ?_
    rintro e w1 ⟨rfl, hb1⟩
    have z1 : W.heap.size < w1.heap.size := by have := hb1.size; simp only [World.size_alloc] at this; omega
    have z2 : b < w1.heap.size := by omega
    have m0 : w1.cell? ⟨W.heap.size, 1, none⟩ = some (.int .i64 x.2) := (hb1.cell (p := ⟨W.heap.size, 1, none⟩) (by simp only [World.size_alloc]; omega)).trans (cell_new W _ _ 1 rfl)
    have m1 : w1.cell? ⟨b, 1, none⟩ = some (.int .i64 q.2.1) := (hb1.cell (p := ⟨b, 1, none⟩) (by simp only [World.size_alloc]; omega)).trans ((World.cell?_alloc_lt _ _ _ hlt).trans k1)
    cases q0 : decide (x.1 = q.1)
    all_goals
      have HZ := Lib.hid q0
      clear q0
      go_wp2
      go_ret
      exact ⟨ret_bool (by rw [HF.out, HQ.out, HZ.out]; rfl), (by (repeat' (first | (with_reducible exact Below.refl _ _) | (with_reducible assumption) | (with_reducible refine bel_set ?_ (by (try dsimp only); omega) _) | (with_reducible refine bel_alloc ?_ _) | (with_reducible refine bel_drewN ?_ _) | (with_reducible refine bel_drew ?_) | (with_reducible refine bel_trans ?_ (by assumption)))); done)⟩
  · have HQ : Hid (decide (x.2 = q.2.1) = true) := by show _ = _; simpa using hq
    go_enter Try.func78, Try.ntmps78
    go_wp2_with fail
    refine (C_impl_EqualNames _ _ _ _ _ (Ty.rd_below (by repeat' (first | (with_reducible exact Below.refl _ _) | (with_reducible assumption) | (with_reducible refine bel_set ?_ (by (try dsimp only); omega) _) | (with_reducible refine bel_alloc ?_ _) | (with_reducible refine bel_drewN ?_ _) | (with_reducible refine bel_drew ?_))) sag0) (Ty.rd_below (by repeat' (first | (with_reducible exact Below.refl _ _) | (with_reducible assumption) | (with_reducible refine bel_set ?_ (by (try dsimp only); omega) _) | (with_reducible refine bel_alloc ?_ _) | (with_reducible refine bel_drewN ?_ _) | (with_reducible refine bel_drew ?_))) h2)).mono ?_
    rintro e w1 ⟨rfl, hb1⟩
    have z1 : W.heap.size < w1.heap.size := by have := hb1.size; simp only [World.size_alloc] at this; omega
    have z2 : b < w1.heap.size := by omega
    have m0 : w1.cell? ⟨W.heap.size, 1, none⟩ = some (.int .i64 x.2) := (hb1.cell (p := ⟨W.heap.size, 1, none⟩) (by simp only [World.size_alloc]; omega)).trans (cell_new W _ _ 1 rfl)
    have m1 : w1.cell? ⟨b, 1, none⟩ = some (.int .i64 q.2.1) := (hb1.cell (p := ⟨b, 1, none⟩) (by simp only [World.size_alloc]; omega)).trans ((World.cell?_alloc_lt _ _ _ hlt).trans k1)
    cases q0 : decide (x.1 = q.1)
    all_goals
      have HZ := Lib.hid q0
      clear q0
      go_wp2
      go_ret
      exact ⟨ret_bool (by rw [HF.out, HQ.out, HZ.out]; rfl), (by (repeat' (first | (with_reducible exact Below.refl _ _) | (with_reducible assumption) | (with_reducible refine bel_set ?_ (by (try dsimp only); omega) _) | (with_reducible refine bel_alloc ?_ _) | (with_reducible refine bel_drewN ?_ _) | (with_reducible refine bel_drew ?_) | (with_reducible refine bel_trans ?_ (by assumption)))); done)⟩
set_option maxRecDepth 100000 in
set_option maxHeartbeats 2000000 in
theorem C_impl_IsLoop (w : World) (v1 : Value) (l : List (Ty.D tPendingInterest)) (v2 : Value) (s : List (Ty.D tSeenNonce)) (cs : List Value) (q : tInterest.D) (h1 : (Ty.sl tPendingInterest).rd w [v1] l) (h2 : (Ty.sl tSeenNonce).rd w [v2] s) (h3 : tInterest.rd w cs q) (s0 : Ty.bulk (.sl tPendingInterest) l ≤ 1048576) (s1 : Ty.bulk (.sl tSeenNonce) s ≤ 1048576) (s2 : Ty.bulk tInterest q ≤ 1048576) :
    Calls Try.prog 12 #[v1, v2, .agg cs.toArray] w (RetB w (f_IsLoop l s q)) := by
  obtain ⟨A1, c1, rfl, hc1, hm1, hn1⟩ := Ty.rd_sl h1
  obtain ⟨A2, c2, rfl, hc2, hm2, hn2⟩ := Ty.rd_sl h2
  obtain ⟨Aq0, cq0, rfl, qg0, qg1, qg2, qg3⟩ := rd_Interest h3
  have HF := Lib.hid (show f_IsLoop l s q = (l.any (askedBy q) || s.any (seenBy q)) from rfl)
  have kb0_0 : (w.alloc (.cells #[.slice Aq0 (List.length q.1) cq0, .int .i64 q.2.1, .int .i64 q.2.2.1, .int .i64 q.2.2.2] 33)).cell? ⟨w.heap.size, 0, none⟩ = some (.slice Aq0 (List.length q.1) cq0) := (cell_new w _ _ 0 (by first | rfl | simp only [World.size_alloc]))
  have kb0_1 : (w.alloc (.cells #[.slice Aq0 (List.length q.1) cq0, .int .i64 q.2.1, .int .i64 q.2.2.1, .int .i64 q.2.2.2] 33)).cell? ⟨w.heap.size, 1, none⟩ = some (.int .i64 q.2.1) := (cell_new w _ _ 1 (by first | rfl | simp only [World.size_alloc]))
  have kb0_2 : (w.alloc (.cells #[.slice Aq0 (List.length q.1) cq0, .int .i64 q.2.1, .int .i64 q.2.2.1, .int .i64 q.2.2.2] 33)).cell? ⟨w.heap.size, 2, none⟩ = some (.int .i64 q.2.2.1) := (cell_new w _ _ 2 (by first | rfl | simp only [World.size_alloc]))
  have kb0_3 : (w.alloc (.cells #[.slice Aq0 (List.length q.1) cq0, .int .i64 q.2.1, .int .i64 q.2.2.1, .int .i64 q.2.2.2] 33)).cell? ⟨w.heap.size, 3, none⟩ = some (.int .i64 q.2.2.2) := (cell_new w _ _ 3 (by first | rfl | simp only [World.size_alloc]))
  have hvb : Below w.heap.size w (w.alloc (.cells #[.slice Aq0 (List.length q.1) cq0, .int .i64 q.2.1, .int .i64 q.2.2.1, .int .i64 q.2.2.2] 33)) := (by repeat' (first | (with_reducible exact Below.refl _ _) | (with_reducible assumption) | (with_reducible refine bel_set ?_ (by (try dsimp only); omega) _) | (with_reducible refine bel_alloc ?_ _) | (with_reducible refine bel_drewN ?_ _) | (with_reducible refine bel_drew ?_)))
  have zb0 := Lib.hid (show (w.alloc (.cells #[.slice Aq0 (List.length q.1) cq0, .int .i64 q.2.1, .int .i64 q.2.2.1, .int .i64 q.2.2.2] 33)).heap.size = w.heap.size + 1 from by simp only [World.size_alloc])
  have zb : w.heap.size < (w.alloc (.cells #[.slice Aq0 (List.length q.1) cq0, .int .i64 q.2.1, .int .i64 q.2.2.1, .int .i64 q.2.2.2] 33)).heap.size := by simp only [World.size_alloc]; omega
  have hmf := hmf_ (P := Try.prog)
  go_enter Try.func12, Try.ntmps12
  go_wp2
  generalize (w.alloc (.cells #[.slice Aq0 (List.length q.1) cq0, .int .i64 q.2.1, .int .i64 q.2.2.1, .int .i64 q.2.2.2] 33)) = WX at kb0_0 kb0_1 kb0_2 kb0_3 hvb zb zb0 ⊢
  have HC : Hid (∀ W, Below WX.heap.size WX W → W.cell? ⟨w.heap.size, 0, none⟩ = some (.slice Aq0 (List.length q.1) cq0) ∧ W.cell? ⟨w.heap.size, 1, none⟩ = some (.int .i64 q.2.1) ∧ W.cell? ⟨w.heap.size, 2, none⟩ = some (.int .i64 q.2.2.1) ∧ W.cell? ⟨w.heap.size, 3, none⟩ = some (.int .i64 q.2.2.2)) := fun W hW => ⟨(hW.cell (p := ⟨w.heap.size, 0, none⟩) (by dsimp only; omega)).trans kb0_0, (hW.cell (p := ⟨w.heap.size, 1, none⟩) (by dsimp only; omega)).trans kb0_1, (hW.cell (p := ⟨w.heap.size, 2, none⟩) (by dsimp only; omega)).trans kb0_2, (hW.cell (p := ⟨w.heap.size, 3, none⟩) (by dsimp only; omega)).trans kb0_3⟩
  clear kb0_0 kb0_1 kb0_2 kb0_3
  go_loopw [11] (fun i wr => ∃ k : Nat, k ≤ l.length ∧ i = .int .i64 k ∧ (l.take k).any (askedBy q) = false ∧ Below WX.heap.size WX wr) (fun i _ => l.length - (intOf i).toNat)
  case atStart => exact ⟨0, by omega, by first | rfl | simp, by first | rfl | simp, Below.refl _ _⟩
  case round =>
    obtain ⟨k, hk, rfl, ht, hb⟩ := hrel
    have hw : Below w.heap.size w wr := bel_trans hvb hb
    have hz0 : w.heap.size < wr.heap.size := by have := hb.size; omega
    have HT := Lib.hid ht
    clear ht
    obtain ⟨j0, j1, j2, j3⟩ := HC.out _ (hb)
    by_cases hlt : k < l.length
    · have HS := Lib.hid (any_take_succ (askedBy q) l hlt)
      obtain ⟨b, o, dsa, rfl, hla, hcella, hrda⟩ := Ty.rd_at (Ty.rd_below hw h1) hlt
      have hrda' := hrda
      obtain ⟨Aa0, ca0, Aa1, ca1, rfl, ag0, ag1, ag2⟩ := rd_PendingInterest hrda
      have e0 : wr.cell? ⟨b, o + k * 3, none⟩ = some (.slice Aa0 (List.length l[k].1) ca0) := by simpa [Ty.sz] using hcella 0 (by decide)
      have e1 : wr.cell? ⟨b, o + k * 3 + 1, none⟩ = some (.slice Aa1 (List.length l[k].2.1) ca1) := by simpa [Ty.sz] using hcella 1 (by decide)
      have e2 : wr.cell? ⟨b, o + k * 3 + 2, none⟩ = some (.int .i64 l[k].2.2) := by simpa [Ty.sz] using hcella 2 (by decide)
      clear hcella hla
      have HP := Lib.hid (show askedBy q l[k] = (decide (l[k].1 = q.1) && (List.any l[k].2.1 (nonceIs q.2.1))) from rfl)
      go_wp2_with fail
      refine (C_impl_EqualNames _ _ _ _ _ (Ty.rd_below (by repeat' (first | (with_reducible exact Below.refl _ _) | (with_reducible assumption) | (with_reducible refine bel_set ?_ (by (try dsimp only); omega) _) | (with_reducible refine bel_alloc ?_ _) | (with_reducible refine bel_drewN ?_ _) | (with_reducible refine bel_drew ?_))) ag0) (Ty.rd_below (bel_trans hw (by repeat' (first | (with_reducible exact Below.refl _ _) | (with_reducible assumption) | (with_reducible refine bel_set ?_ (by (try dsimp only); omega) _) | (with_reducible refine bel_alloc ?_ _) | (with_reducible refine bel_drewN ?_ _) | (with_reducible refine bel_drew ?_)))) qg0)).mono ?_
      rintro e w1 ⟨rfl, hb1⟩
      have hv1 : Below wr.heap.size wr w1 := bel_trans (by repeat' (first | (with_reducible exact Below.refl _ _) | (with_reducible assumption) | (with_reducible refine bel_set ?_ (by (try dsimp only); omega) _) | (with_reducible refine bel_alloc ?_ _) | (with_reducible refine bel_drewN ?_ _) | (with_reducible refine bel_drew ?_))) hb1
      have hx1 : Below WX.heap.size WX w1 := bel_trans hb hv1
      have z1 : wr.heap.size < w1.heap.size := by have := hb1.size; simp only [World.size_alloc] at this; omega
      have m1 : w1.cell? ⟨wr.heap.size, 1, none⟩ = some (.slice Aa1 (List.length l[k].2.1) ca1) := (hb1.cell (p := ⟨wr.heap.size, 1, none⟩) (by simp only [World.size_alloc]; omega)).trans (cell_new wr _ _ 1 rfl)
      cases q0 : decide (l[k].1 = q.1)
      · have HZ := Lib.hid (show askedBy q l[k] = false from by rw [HP.out, q0]; rfl)
        clear q0
        go_wp2
        go_roundw
        case rel => exact ⟨k + 1, by omega, by go_num, by rw [HS.out, HT.out, HZ.out]; rfl, hx1⟩
        case measure => simp [intOf]; omega
      · have HZ := Lib.hid q0
        clear q0
        go_wp2_with fail
        refine (C_ContainsFunc_Requester _ _ l[k].2.1 (nonceIs q.2.1) 76 #[.pointer (some ⟨w.heap.size, 0, none⟩)] (enters_of Try.func76 (by kernel_rfl) rfl) (Ty.rd_below hv1 ag1) (fun W ds d hd hr hW => C_impl_IsLoop1 W ds d q.2.1 w.heap.size hr ?_)).mono ?_
        · exact (HC.out W (bel_trans hx1 hW)).2.1
        rintro e w2 ⟨rfl, hb2⟩
        have hx2 : Below WX.heap.size WX w2 := bel_trans hx1 hb2
        cases q1 : (List.any l[k].2.1 (nonceIs q.2.1))
        · have HZ2 := Lib.hid (show askedBy q l[k] = false from by rw [HP.out, q1]; simp)
          clear q1
          go_wp2
          go_roundw
          case rel => exact ⟨k + 1, by omega, by go_num, by rw [HS.out, HT.out, HZ2.out]; rfl, hx2⟩
          case measure => simp [intOf]; omega
        · have HZ2 := Lib.hid (any_true_of (askedBy q) l hlt (by rw [HP.out, q1, HZ.out]; rfl))
          clear q1
          go_wp2
          go_ret
          exact ⟨ret_bool (by rw [HF.out, HZ2.out]; rfl), bel_trans hvb hx2⟩
    · have HE : Hid (l.any (askedBy q) = false) := by have := HT.out; rwa [List.take_of_length_le (by omega)] at this
      go_wp2_with fail
      refine (C_ContainsFunc_SeenNonce _ _ s (seenBy q) 78 #[.pointer (some ⟨w.heap.size, 0, none⟩)] (enters_of Try.func78 (by kernel_rfl) rfl) (Ty.rd_below hw h2) (fun W ds d hd hr hW => C_impl_IsLoop2 W ds d q Aq0 cq0 w.heap.size hr (HC.out W (bel_trans hb hW)).1 (HC.out W (bel_trans hb hW)).2.1 (Ty.rd_below (bel_trans hw hW) qg0))).mono ?_
      rintro e w2 ⟨rfl, hb2⟩
      go_wp2
      go_ret
      exact ⟨ret_bool (by rw [HF.out, HE.out]; rfl), bel_trans hw hb2⟩
end Go.Proofs.Ytldgbnlcnlfmeaa
