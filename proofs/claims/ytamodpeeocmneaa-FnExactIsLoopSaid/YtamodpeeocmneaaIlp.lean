/- A loop is seen. Printed by gen19.py. -/
import Derived.Test.YtamodpeeocmneaaDat
import Derived.Test.YtamodpeeocmneaaIxf
import Derived.Test.YtamodpeeocmneaaStp
import Derived.Test.YtamodpeeocmneaaNb
import Derived.Deep.QuietTactic
import Derived.BigQuiet
namespace Go.Proofs.Ytamodpeeocmneaa
open Go.RowKit
set_option linter.unusedVariables false
set_option linter.unusedSimpArgs false

def nonceIs (a : Int) (r : Ty.D tRequester) : Bool := decide (r.2.1 = a)
def askedBy (q : tInterest.D) (p : Ty.D tPendingInterest) : Bool := decide (p.1 = q.1) && p.2.1.any (nonceIs q.2.1)
def seenBy (q : tInterest.D) (x : Ty.D tSeenNonce) : Bool := decide (x.1 = q.1) && decide (x.2 = q.2.1)
def f_IsLoop (l : List (Ty.D tPendingInterest)) (s : List (Ty.D tSeenNonce)) (q : tInterest.D) : Bool := l.any (askedBy q) || s.any (seenBy q)
set_option maxHeartbeats 1000000 in
theorem C_impl_IsLoop1 (W : World) (ds : List Value) (r : Ty.D tRequester) (a : Int) (b : Nat) (h1 : tRequester.rd W ds r) (hcell : W.cell? ⟨b, 1, none⟩ = some (.int .i64 a)) :
    Calls Try.prog 124 #[.agg ds.toArray, .pointer (some ⟨b, 0, none⟩)] W (RetB W (nonceIs a r)) := by
  obtain ⟨rfl, q0, q1, q2⟩ := rd_Requester h1
  have hlt : b < W.heap.size := World.block_lt_of_cell? W _ hcell
  cases hq : (r.2.1 == a)
  · have HQ : Hid (nonceIs a r = false) := by show _ = _; unfold nonceIs; simpa using hq
    go_enter Try.func124, Try.ntmps124
    go_wp2
    go_ret
    exact ⟨ret_bool HQ.out.symm, (by repeat' (first | (with_reducible exact Below.refl _ _) | (with_reducible assumption) | (with_reducible refine bel_set ?_ (by (try dsimp only); omega) _) | (with_reducible refine bel_alloc ?_ _) | (with_reducible refine bel_drewN ?_ _) | (with_reducible refine bel_drew ?_)))⟩
  · have HQ : Hid (nonceIs a r = true) := by show _ = _; unfold nonceIs; simpa using hq
    go_enter Try.func124, Try.ntmps124
    go_wp2
    go_ret
    exact ⟨ret_bool HQ.out.symm, (by repeat' (first | (with_reducible exact Below.refl _ _) | (with_reducible assumption) | (with_reducible refine bel_set ?_ (by (try dsimp only); omega) _) | (with_reducible refine bel_alloc ?_ _) | (with_reducible refine bel_drewN ?_ _) | (with_reducible refine bel_drew ?_)))⟩
set_option maxHeartbeats 1000000 in
theorem C_impl_IsLoop2 (W : World) (ds : List Value) (x : Ty.D tSeenNonce) (q : tInterest.D) (A2 : Option Addr) (c2 b : Nat) (h1 : tSeenNonce.rd W ds x) (k0 : W.cell? ⟨b, 0, none⟩ = some (.slice A2 (List.length q.1) c2)) (k1 : W.cell? ⟨b, 1, none⟩ = some (.int .i64 q.2.1)) (h2 : (Ty.sl .str).rd W [.slice A2 (List.length q.1) c2] q.1) :
    Calls Try.prog 126 #[.agg ds.toArray, .pointer (some ⟨b, 0, none⟩)] W (RetB W (seenBy q x)) := by
  obtain ⟨Aa0, ca0, rfl, sag0, sag1⟩ := rd_SeenNonce h1
  have hlt : b < W.heap.size := World.block_lt_of_cell? W _ k0
  have HF := Lib.hid (show seenBy q x = (decide (x.1 = q.1) && decide (x.2 = q.2.1)) from rfl)
  cases hq : (x.2 == q.2.1)
  · have HQ : Hid (decide (x.2 = q.2.1) = false) := by show _ = _; simpa using hq
    go_enter Try.func126, Try.ntmps126
    go_wp2_with fail
    refine (C_impl_EqualNames _ _ _ _ _ (Ty.rd_below (by repeat' (first | (with_reducible exact Below.refl _ _) | (with_reducible assumption) | (with_reducible refine bel_set ?_ (by (try dsimp only); omega) _) | (with_reducible refine bel_alloc ?_ _) | (with_reducible refine bel_drewN ?_ _) | (with_reducible refine bel_drew ?_))) sag0) (Ty.rd_below (by repeat' (first | (with_reducible exact Below.refl _ _) | (with_reducible assumption) | (with_reducible refine bel_set ?_ (by (try dsimp only); omega) _) | (with_reducible refine bel_alloc ?_ _) | (with_reducible refine bel_drewN ?_ _) | (with_reducible refine bel_drew ?_))) h2)).mono ?_
    rintro e w1 ⟨rfl, hb1⟩
    have z1 : W.heap.size < w1.heap.size := by have := hb1.size; simp only [World.size_alloc] at this; omega
    have z2 : b < w1.heap.size := by omega
    have m0 : w1.cell? ⟨W.heap.size, 1, none⟩ = some (.int .i64 x.2) := (hb1.cell (p := ⟨W.heap.size, 1, none⟩) (by simp only [World.size_alloc]; omega)).trans (cell_new W _ _ 1 rfl)
    have m1 : w1.cell? ⟨b, 1, none⟩ = some (.int .i64 q.2.1) := (hb1.cell (p := ⟨b, 1, none⟩) (by simp only [World.size_alloc]; omega)).trans ((World.cell?_alloc_lt _ _ _ hlt).trans k1)
    cases q0 : decide (x.1 = q.1)
    all_goals
      have HZ := Lib.hid q0
      clear q0
      go_wp2
      go_ret
      exact ⟨ret_bool (by rw [HF.out, HQ.out, HZ.out]; rfl), (by (repeat' (first | (with_reducible exact Below.refl _ _) | (with_reducible assumption) | (with_reducible refine bel_set ?_ (by (try dsimp only); omega) _) | (with_reducible refine bel_alloc ?_ _) | (with_reducible refine bel_drewN ?_ _) | (with_reducible refine bel_drew ?_) | (with_reducible refine bel_trans ?_ (by assumption)))); done)⟩
  · have HQ : Hid (decide (x.2 = q.2.1) = true) := by show _ = _; simpa using hq
    go_enter Try.func126, Try.ntmps126
    go_wp2_with fail
    refine (C_impl_EqualNames _ _ _ _ _ (Ty.rd_below (by repeat' (first | (with_reducible exact Below.refl _ _) | (with_reducible assumption) | (with_reducible refine bel_set ?_ (by (try dsimp only); omega) _) | (with_reducible refine bel_alloc ?_ _) | (with_reducible refine bel_drewN ?_ _) | (with_reducible refine bel_drew ?_))) sag0) (Ty.rd_below (by repeat' (first | (with_reducible exact Below.refl _ _) | (with_reducible assumption) | (with_reducible refine bel_set ?_ (by (try dsimp only); omega) _) | (with_reducible refine bel_alloc ?_ _) | (with_reducible refine bel_drewN ?_ _) | (with_reducible refine bel_drew ?_))) h2)).mono ?_
    rintro e w1 ⟨rfl, hb1⟩
    have z1 : W.heap.size < w1.heap.size := by have := hb1.size; simp only [World.size_alloc] at this; omega
    have z2 : b < w1.heap.size := by omega
    have m0 : w1.cell? ⟨W.heap.size, 1, none⟩ = some (.int .i64 x.2) := (hb1.cell (p := ⟨W.heap.size, 1, none⟩) (by simp only [World.size_alloc]; omega)).trans (cell_new W _ _ 1 rfl)
    have m1 : w1.cell? ⟨b, 1, none⟩ = some (.int .i64 q.2.1) := (hb1.cell (p := ⟨b, 1, none⟩) (by simp only [World.size_alloc]; omega)).trans ((World.cell?_alloc_lt _ _ _ hlt).trans k1)
    cases q0 : decide (x.1 = q.1)
    all_goals
      have HZ := Lib.hid q0
      clear q0
      go_wp2
      go_ret
      exact ⟨ret_bool (by rw [HF.out, HQ.out, HZ.out]; rfl), (by (repeat' (first | (with_reducible exact Below.refl _ _) | (with_reducible assumption) | (with_reducible refine bel_set ?_ (by (try dsimp only); omega) _) | (with_reducible refine bel_alloc ?_ _) | (with_reducible refine bel_drewN ?_ _) | (with_reducible refine bel_drew ?_) | (with_reducible refine bel_trans ?_ (by assumption)))); done)⟩
set_option maxRecDepth 100000 in
set_option maxHeartbeats 2000000 in
theorem C_impl_IsLoop (w : World) (v1 : Value) (l : List (Ty.D tPendingInterest)) (v2 : Value) (s : List (Ty.D tSeenNonce)) (cs : List Value) (q : tInterest.D) (h1 : (Ty.sl tPendingInterest).rd w [v1] l) (h2 : (Ty.sl tSeenNonce).rd w [v2] s) (h3 : tInterest.rd w cs q) (s0 : Ty.bulk (.sl tPendingInterest) l ≤ 1048576) (s1 : Ty.bulk (.sl tSeenNonce) s ≤ 1048576) (s2 : Ty.bulk tInterest q ≤ 1048576) :
    Calls Try.prog 69 #[v1, v2, .agg cs.toArray] w (RetB w (f_IsLoop l s q)) := by
  obtain ⟨A1, c1, rfl, hc1, hm1, hn1⟩ := Ty.rd_sl h1
  obtain ⟨A2, c2, rfl, hc2, hm2, hn2⟩ := Ty.rd_sl h2
  obtain ⟨Aq0, cq0, rfl, qg0, qg1, qg2, qg3⟩ := rd_Interest h3
  have HF := Lib.hid (show f_IsLoop l s q = (l.any (askedBy q) || s.any (seenBy q)) from rfl)
  have kb0_0 : (w.alloc (.cells #[.slice Aq0 (List.length q.1) cq0, .int .i64 q.2.1, .int .i64 q.2.2.1, .int .i64 q.2.2.2] 88)).cell? ⟨w.heap.size, 0, none⟩ = some (.slice Aq0 (List.length q.1) cq0) := (cell_new w _ _ 0 (by first | rfl | simp only [World.size_alloc]))
  have kb0_1 : (w.alloc (.cells #[.slice Aq0 (List.length q.1) cq0, .int .i64 q.2.1, .int .i64 q.2.2.1, .int .i64 q.2.2.2] 88)).cell? ⟨w.heap.size, 1, none⟩ = some (.int .i64 q.2.1) := (cell_new w _ _ 1 (by first | rfl | simp only [World.size_alloc]))
  have kb0_2 : (w.alloc (.cells #[.slice Aq0 (List.length q.1) cq0, .int .i64 q.2.1, .int .i64 q.2.2.1, .int .i64 q.2.2.2] 88)).cell? ⟨w.heap.size, 2, none⟩ = some (.int .i64 q.2.2.1) := (cell_new w _ _ 2 (by first | rfl | simp only [World.size_alloc]))
  have kb0_3 : (w.alloc (.cells #[.slice Aq0 (List.length q.1) cq0, .int .i64 q.2.1, .int .i64 q.2.2.1, .int .i64 q.2.2.2] 88)).cell? ⟨w.heap.size, 3, none⟩ = some (.int .i64 q.2.2.2) := (cell_new w _ _ 3 (by first | rfl | simp only [World.size_alloc]))
  have hvb : Below w.heap.size w (w.alloc (.cells #[.slice Aq0 (List.length q.1) cq0, .int .i64 q.2.1, .int .i64 q.2.2.1, .int .i64 q.2.2.2] 88)) := (by repeat' (first | (with_reducible exact Below.refl _ _) | (with_reducible assumption) | (with_reducible refine bel_set ?_ (by (try dsimp only); omega) _) | (with_reducible refine bel_alloc ?_ _) | (with_reducible refine bel_drewN ?_ _) | (with_reducible refine bel_drew ?_)))
  have zb0 := Lib.hid (show (w.alloc (.cells #[.slice Aq0 (List.length q.1) cq0, .int .i64 q.2.1, .int .i64 q.2.2.1, .int .i64 q.2.2.2] 88)).heap.size = w.heap.size + 1 from by simp only [World.size_alloc])
  have zb : w.heap.size < (w.alloc (.cells #[.slice Aq0 (List.length q.1) cq0, .int .i64 q.2.1, .int .i64 q.2.2.1, .int .i64 q.2.2.2] 88)).heap.size := by simp only [World.size_alloc]; omega
  have hmf := hmf_ (P := Try.prog)
  go_enter Try.func69, Try.ntmps69
  go_wp2
  generalize (w.alloc (.cells #[.slice Aq0 (List.length q.1) cq0, .int .i64 q.2.1, .int .i64 q.2.2.1, .int .i64 q.2.2.2] 88)) = WX at kb0_0 kb0_1 kb0_2 kb0_3 hvb zb zb0 ⊢
  have HC : Hid (∀ W, Below WX.heap.size WX W → W.cell? ⟨w.heap.size, 0, none⟩ = some (.slice Aq0 (List.length q.1) cq0) ∧ W.cell? ⟨w.heap.size, 1, none⟩ = some (.int .i64 q.2.1) ∧ W.cell? ⟨w.heap.size, 2, none⟩ = some (.int .i64 q.2.2.1) ∧ W.cell? ⟨w.heap.size, 3, none⟩ = some (.int .i64 q.2.2.2)) := fun W hW => ⟨(hW.cell (p := ⟨w.heap.size, 0, none⟩) (by dsimp only; omega)).trans kb0_0, (hW.cell (p := ⟨w.heap.size, 1, none⟩) (by dsimp only; omega)).trans kb0_1, (hW.cell (p := ⟨w.heap.size, 2, none⟩) (by dsimp only; omega)).trans kb0_2, (hW.cell (p := ⟨w.heap.size, 3, none⟩) (by dsimp only; omega)).trans kb0_3⟩
  clear kb0_0 kb0_1 kb0_2 kb0_3
  go_loopw [11] (fun i wr => ∃ k : Nat, k ≤ l.length ∧ i = .int .i64 k ∧ (l.take k).any (askedBy q) = false ∧ Below WX.heap.size WX wr) (fun i _ => l.length - (intOf i).toNat)
  case atStart => exact ⟨0, by omega, by first | rfl | simp, by first | rfl | simp, Below.refl _ _⟩
  case round =>
    obtain ⟨k, hk, rfl, ht, hb⟩ := hrel
    have hw : Below w.heap.size w wr := bel_trans hvb hb
    have hz0 : w.heap.size < wr.heap.size := by have := hb.size; omega
    have HT := Lib.hid ht
    clear ht
    obtain ⟨j0, j1, j2, j3⟩ := HC.out _ (hb)
    by_cases hlt : k < l.length
    · have HS := Lib.hid (any_take_succ (askedBy q) l hlt)
      obtain ⟨b, o, dsa, rfl, hla, hcella, hrda⟩ := Ty.rd_at (Ty.rd_below hw h1) hlt
      have hrda' := hrda
      obtain ⟨Aa0, ca0, Aa1, ca1, rfl, ag0, ag1, ag2⟩ := rd_PendingInterest hrda
      have e0 : wr.cell? ⟨b, o + k * 3, none⟩ = some (.slice Aa0 (List.length l[k].1) ca0) := by simpa [Ty.sz] using hcella 0 (by decide)
      have e1 : wr.cell? ⟨b, o + k * 3 + 1, none⟩ = some (.slice Aa1 (List.length l[k].2.1) ca1) := by simpa [Ty.sz] using hcella 1 (by decide)
      have e2 : wr.cell? ⟨b, o + k * 3 + 2, none⟩ = some (.int .i64 l[k].2.2) := by simpa [Ty.sz] using hcella 2 (by decide)
      clear hcella hla
      have HP := Lib.hid (show askedBy q l[k] = (decide (l[k].1 = q.1) && (List.any l[k].2.1 (nonceIs q.2.1))) from rfl)
      go_wp2_with fail
      refine (C_impl_EqualNames _ _ _ _ _ (Ty.rd_below (by repeat' (first | (with_reducible exact Below.refl _ _) | (with_reducible assumption) | (with_reducible refine bel_set ?_ (by (try dsimp only); omega) _) | (with_reducible refine bel_alloc ?_ _) | (with_reducible refine bel_drewN ?_ _) | (with_reducible refine bel_drew ?_))) ag0) (Ty.rd_below (bel_trans hw (by repeat' (first | (with_reducible exact Below.refl _ _) | (with_reducible assumption) | (with_reducible refine bel_set ?_ (by (try dsimp only); omega) _) | (with_reducible refine bel_alloc ?_ _) | (with_reducible refine bel_drewN ?_ _) | (with_reducible refine bel_drew ?_)))) qg0)).mono ?_
      rintro e w1 ⟨rfl, hb1⟩
      have hv1 : Below wr.heap.size wr w1 := bel_trans (by repeat' (first | (with_reducible exact Below.refl _ _) | (with_reducible assumption) | (with_reducible refine bel_set ?_ (by (try dsimp only); omega) _) | (with_reducible refine bel_alloc ?_ _) | (with_reducible refine bel_drewN ?_ _) | (with_reducible refine bel_drew ?_))) hb1
      have hx1 : Below WX.heap.size WX w1 := bel_trans hb hv1
      have z1 : wr.heap.size < w1.heap.size := by have := hb1.size; simp only [World.size_alloc] at this; omega
      have m1 : w1.cell? ⟨wr.heap.size, 1, none⟩ = some (.slice Aa1 (List.length l[k].2.1) ca1) := (hb1.cell (p := ⟨wr.heap.size, 1, none⟩) (by simp only [World.size_alloc]; omega)).trans (cell_new wr _ _ 1 rfl)
      cases q0 : decide (l[k].1 = q.1)
      · have HZ := Lib.hid (show askedBy q l[k] = false from by rw [HP.out, q0]; rfl)
        clear q0
        go_wp2
        go_roundw
        case rel => exact ⟨k + 1, by omega, by go_num, by rw [HS.out, HT.out, HZ.out]; rfl, hx1⟩
        case measure => simp [intOf]; omega
      · have HZ := Lib.hid q0
        clear q0
        go_wp2_with fail
        refine (C_ContainsFunc_Requester _ _ l[k].2.1 (nonceIs q.2.1) 124 #[.pointer (some ⟨w.heap.size, 0, none⟩)] (enters_of Try.func124 (by kernel_rfl) rfl) (Ty.rd_below hv1 ag1) (fun W ds d hd hr hW => C_impl_IsLoop1 W ds d q.2.1 w.heap.size hr ?_)).mono ?_
        · exact (HC.out W (bel_trans hx1 hW)).2.1
        rintro e w2 ⟨rfl, hb2⟩
        have hx2 : Below WX.heap.size WX w2 := bel_trans hx1 hb2
        cases q1 : (List.any l[k].2.1 (nonceIs q.2.1))
        · have HZ2 := Lib.hid (show askedBy q l[k] = false from by rw [HP.out, q1]; simp)
          clear q1
          go_wp2
          go_roundw
          case rel => exact ⟨k + 1, by omega, by go_num, by rw [HS.out, HT.out, HZ2.out]; rfl, hx2⟩
          case measure => simp [intOf]; omega
        · have HZ2 := Lib.hid (any_true_of (askedBy q) l hlt (by rw [HP.out, q1, HZ.out]; rfl))
          clear q1
          go_wp2
          go_ret
          exact ⟨ret_bool (by rw [HF.out, HZ2.out]; rfl), bel_trans hvb hx2⟩
    · have HE : Hid (l.any (askedBy q) = false) := by have := HT.out; rwa [List.take_of_length_le (by omega)] at this
      go_wp2_with fail
      refine (C_ContainsFunc_SeenNonce _ _ s (seenBy q) 126 #[.pointer (some ⟨w.heap.size, 0, none⟩)] (enters_of Try.func126 (by kernel_rfl) rfl) (Ty.rd_below hw h2) (fun W ds d hd hr hW => C_impl_IsLoop2 W ds d q Aq0 cq0 w.heap.size hr (HC.out W (bel_trans hb hW)).1 (HC.out W (bel_trans hb hW)).2.1 (Ty.rd_below (bel_trans hw hW) qg0))).mono ?_
      rintro e w2 ⟨rfl, hb2⟩
      go_wp2
      go_ret
      exact ⟨ret_bool (by rw [HF.out, HE.out]; rfl), bel_trans hw hb2⟩
set_option maxRecDepth 100000 in
set_option maxHeartbeats 4000000 in
theorem C_spec_IsLoop (w : World) (v1 : Value) (l : List (Ty.D tPendingInterest)) (v2 : Value) (s : List (Ty.D tSeenNonce)) (cs : List Value) (q : tInterest.D) (h1 : (Ty.sl tPendingInterest).rd w [v1] l) (h2 : (Ty.sl tSeenNonce).rd w [v2] s) (h3 : tInterest.rd w cs q) (s0 : Ty.bulk (.sl tPendingInterest) l ≤ 1048576) (s1 : Ty.bulk (.sl tSeenNonce) s ≤ 1048576) (s2 : Ty.bulk tInterest q ≤ 1048576) :
    Calls Try.prog 67 #[v1, v2, .agg cs.toArray] w (RetB w (f_IsLoop l s q)) := by
  obtain ⟨A1, c1, rfl, hc1, hm1, hn1⟩ := Ty.rd_sl h1
  obtain ⟨A2, c2, rfl, hc2, hm2, hn2⟩ := Ty.rd_sl h2
  obtain ⟨Aq0, cq0, rfl, qg0, qg1, qg2, qg3⟩ := rd_Interest h3
  have HF := Lib.hid (show f_IsLoop l s q = (l.any (askedBy q) || s.any (seenBy q)) from rfl)
  have kb0_0 : (w.alloc (.cells #[.slice Aq0 (List.length q.1) cq0, .int .i64 q.2.1, .int .i64 q.2.2.1, .int .i64 q.2.2.2] 88)).cell? ⟨w.heap.size, 0, none⟩ = some (.slice Aq0 (List.length q.1) cq0) := (cell_new w _ _ 0 (by first | rfl | simp only [World.size_alloc]))
  have kb0_1 : (w.alloc (.cells #[.slice Aq0 (List.length q.1) cq0, .int .i64 q.2.1, .int .i64 q.2.2.1, .int .i64 q.2.2.2] 88)).cell? ⟨w.heap.size, 1, none⟩ = some (.int .i64 q.2.1) := (cell_new w _ _ 1 (by first | rfl | simp only [World.size_alloc]))
  have kb0_2 : (w.alloc (.cells #[.slice Aq0 (List.length q.1) cq0, .int .i64 q.2.1, .int .i64 q.2.2.1, .int .i64 q.2.2.2] 88)).cell? ⟨w.heap.size, 2, none⟩ = some (.int .i64 q.2.2.1) := (cell_new w _ _ 2 (by first | rfl | simp only [World.size_alloc]))
  have kb0_3 : (w.alloc (.cells #[.slice Aq0 (List.length q.1) cq0, .int .i64 q.2.1, .int .i64 q.2.2.1, .int .i64 q.2.2.2] 88)).cell? ⟨w.heap.size, 3, none⟩ = some (.int .i64 q.2.2.2) := (cell_new w _ _ 3 (by first | rfl | simp only [World.size_alloc]))
  have hvb : Below w.heap.size w (w.alloc (.cells #[.slice Aq0 (List.length q.1) cq0, .int .i64 q.2.1, .int .i64 q.2.2.1, .int .i64 q.2.2.2] 88)) := (by repeat' (first | (with_reducible exact Below.refl _ _) | (with_reducible assumption) | (with_reducible refine bel_set ?_ (by (try dsimp only); omega) _) | (with_reducible refine bel_alloc ?_ _) | (with_reducible refine bel_drewN ?_ _) | (with_reducible refine bel_drew ?_)))
  have zb0 := Lib.hid (show (w.alloc (.cells #[.slice Aq0 (List.length q.1) cq0, .int .i64 q.2.1, .int .i64 q.2.2.1, .int .i64 q.2.2.2] 88)).heap.size = w.heap.size + 1 from by simp only [World.size_alloc])
  have zb : w.heap.size < (w.alloc (.cells #[.slice Aq0 (List.length q.1) cq0, .int .i64 q.2.1, .int .i64 q.2.2.1, .int .i64 q.2.2.2] 88)).heap.size := by simp only [World.size_alloc]; omega
  go_enter Try.func67, Try.ntmps67
  go_wp2
  generalize (w.alloc (.cells #[.slice Aq0 (List.length q.1) cq0, .int .i64 q.2.1, .int .i64 q.2.2.1, .int .i64 q.2.2.2] 88)) = WX at kb0_0 kb0_1 kb0_2 kb0_3 hvb zb zb0 ⊢
  have HC : Hid (∀ W, Below WX.heap.size WX W → W.cell? ⟨w.heap.size, 0, none⟩ = some (.slice Aq0 (List.length q.1) cq0) ∧ W.cell? ⟨w.heap.size, 1, none⟩ = some (.int .i64 q.2.1) ∧ W.cell? ⟨w.heap.size, 2, none⟩ = some (.int .i64 q.2.2.1) ∧ W.cell? ⟨w.heap.size, 3, none⟩ = some (.int .i64 q.2.2.2)) := fun W hW => ⟨(hW.cell (p := ⟨w.heap.size, 0, none⟩) (by dsimp only; omega)).trans kb0_0, (hW.cell (p := ⟨w.heap.size, 1, none⟩) (by dsimp only; omega)).trans kb0_1, (hW.cell (p := ⟨w.heap.size, 2, none⟩) (by dsimp only; omega)).trans kb0_2, (hW.cell (p := ⟨w.heap.size, 3, none⟩) (by dsimp only; omega)).trans kb0_3⟩
  clear kb0_0 kb0_1 kb0_2 kb0_3
  go_loopw [7] (fun i wr => ∃ k : Nat, k ≤ l.length ∧ i = .int .i64 k ∧ (l.take k).any (askedBy q) = false ∧ Below WX.heap.size WX wr) (fun i _ => l.length - (intOf i).toNat)
  case atStart => exact ⟨0, by omega, by first | rfl | simp, by first | rfl | simp, Below.refl _ _⟩
  case round =>
    obtain ⟨k, hk, rfl, ht, hb⟩ := hrel
    have hw : Below w.heap.size w wr := bel_trans hvb hb
    have HT := Lib.hid ht
    clear ht
    by_cases hlt : k < l.length
    · have HS := Lib.hid (any_take_succ (askedBy q) l hlt)
      have HP := Lib.hid (show askedBy q l[k] = (decide (l[k].1 = q.1) && (List.any l[k].2.1 (nonceIs q.2.1))) from rfl)
      obtain ⟨wo, hwo⟩ : ∃ wo, wo = wr := ⟨_, rfl⟩
      subst hwo
      go_wp2
      go_loopw [8] (fun i wr => ∃ j : Nat, j ≤ List.length l[k].2.1 ∧ i = .int .i64 j ∧ (List.take j l[k].2.1).any (nonceIs q.2.1) = false ∧ Below WX.heap.size WX wr) (fun i _ => List.length l[k].2.1 - (intOf i).toNat)
      case atStart => exact ⟨0, by omega, by first | rfl | simp, by first | rfl | simp, hb⟩
      case round =>
        obtain ⟨j, hj, rfl, hta, hb⟩ := hrel
        have hw : Below w.heap.size w wr := bel_trans hvb hb
        have HTA := Lib.hid hta
        clear hta
        obtain ⟨b, o, dsa, rfl, hla, hcella, hrda⟩ := Ty.rd_at (Ty.rd_below hw h1) hlt
        have hrda' := hrda
        obtain ⟨Aa0, ca0, Aa1, ca1, rfl, ag0, ag1, ag2⟩ := rd_PendingInterest hrda
        have e0 : wr.cell? ⟨b, o + k * 3, none⟩ = some (.slice Aa0 (List.length l[k].1) ca0) := by simpa [Ty.sz] using hcella 0 (by decide)
        have e1 : wr.cell? ⟨b, o + k * 3 + 1, none⟩ = some (.slice Aa1 (List.length l[k].2.1) ca1) := by simpa [Ty.sz] using hcella 1 (by decide)
        have e2 : wr.cell? ⟨b, o + k * 3 + 2, none⟩ = some (.int .i64 l[k].2.2) := by simpa [Ty.sz] using hcella 2 (by decide)
        clear hcella hla
        obtain ⟨_, _, _, _, _, m9⟩ := Ty.rd_sl ag1
        have hlb : b < wr.heap.size := World.block_lt_of_cell? wr _ e0
        have HH : Hid (∀ W, Below wr.heap.size wr W → Below WX.heap.size WX W ∧ W.cell? ⟨w.heap.size, 0, none⟩ = some (.slice Aq0 (List.length q.1) cq0) ∧ W.cell? ⟨w.heap.size, 1, none⟩ = some (.int .i64 q.2.1) ∧ W.cell? ⟨w.heap.size, 2, none⟩ = some (.int .i64 q.2.2.1) ∧ W.cell? ⟨w.heap.size, 3, none⟩ = some (.int .i64 q.2.2.2) ∧ W.cell? ⟨b, o + k * 3, none⟩ = some (.slice Aa0 (List.length l[k].1) ca0) ∧ W.cell? ⟨b, o + k * 3 + 1, none⟩ = some (.slice Aa1 (List.length l[k].2.1) ca1) ∧ W.cell? ⟨b, o + k * 3 + 2, none⟩ = some (.int .i64 l[k].2.2)) := fun W hW => ⟨bel_trans hb hW, (HC.out _ (bel_trans hb hW)).1, (HC.out _ (bel_trans hb hW)).2.1, (HC.out _ (bel_trans hb hW)).2.2.1, (HC.out _ (bel_trans hb hW)).2.2.2, (hW.cell hlb).trans e0, (hW.cell hlb).trans e1, (hW.cell hlb).trans e2⟩
        have hv0 : Below wr.heap.size wr wr := Below.refl _ _
        have i0 : (0 : Int) ≤ (k : Int) := by omega
        have i1 : (k : Int) < (l.length : Int) := by omega
        by_cases hjl : j < List.length l[k].2.1
        · have hd : decide ((j : Int) < (List.length l[k].2.1 : Int)) = true := by simpa using hjl
          have hd2 : decide (j < List.length l[k].2.1) = true := by simpa using hjl
          cases q0 : decide (l[k].1 = q.1)
          all_goals
            go_wp2_with fail
            refine wp_region_noPanic ?_
            refine wp_region_held_drew (S := (fun W => Below WX.heap.size WX W ∧ W.cell? ⟨w.heap.size, 0, none⟩ = some (.slice Aq0 (List.length q.1) cq0) ∧ W.cell? ⟨w.heap.size, 1, none⟩ = some (.int .i64 q.2.1) ∧ W.cell? ⟨w.heap.size, 2, none⟩ = some (.int .i64 q.2.2.1) ∧ W.cell? ⟨w.heap.size, 3, none⟩ = some (.int .i64 q.2.2.2) ∧ W.cell? ⟨b, o + k * 3, none⟩ = some (.slice Aa0 (List.length l[k].1) ca0) ∧ W.cell? ⟨b, o + k * 3 + 1, none⟩ = some (.slice Aa1 (List.length l[k].2.1) ca1) ∧ W.cell? ⟨b, o + k * 3 + 2, none⟩ = some (.int .i64 l[k].2.2))) (by kernel_rfl) ?_ (fun hHeld => ?_)
            · exact HH.out _ (by (repeat' (first | (with_reducible exact Below.refl _ _) | (with_reducible assumption) | (with_reducible refine bel_set ?_ (by (try dsimp only); omega) _) | (with_reducible refine bel_alloc ?_ _) | (with_reducible refine bel_drewN ?_ _) | (with_reducible refine bel_drew ?_) | (with_reducible refine bel_trans ?_ (by assumption)))); done)
            refine tk 0 (opN rfl) (by kernel_rfl) (by rfl) (by (intro w hSw; (try dsimp only at hSw); go_simp; first | done | with_reducible rfl)) (by assumption) ?_
            try simp only [Act.put, List.setIfInBounds_toArray, List.set_cons_zero, List.set_cons_succ]
            refine tk 1 (opN rfl) (by kernel_rfl) (by rfl) (by (intro w hSw; (try dsimp only at hSw); go_simp; first | done | with_reducible rfl)) (by assumption) ?_
            try simp only [Act.put, List.setIfInBounds_toArray, List.set_cons_zero, List.set_cons_succ]
            refine tk 2 (opN rfl) (by kernel_rfl) (by rfl) (by (intro w hSw; (try dsimp only at hSw); go_simp; first | done | with_reducible rfl)) (by assumption) ?_
            try simp only [Act.put, List.setIfInBounds_toArray, List.set_cons_zero, List.set_cons_succ]
            refine tk 3 (opN rfl) (by kernel_rfl) (by rfl) (by (intro w hSw; (try dsimp only at hSw); go_simp; first | done | with_reducible rfl)) (by assumption) ?_
            try simp only [Act.put, List.setIfInBounds_toArray, List.set_cons_zero, List.set_cons_succ]
            refine tk 4 (opN rfl) (by kernel_rfl) (by rfl) (by (intro w hSw; (try dsimp only at hSw); go_simp; first | done | with_reducible rfl)) (by assumption) ?_
            try simp only [Act.put, List.setIfInBounds_toArray, List.set_cons_zero, List.set_cons_succ]
            refine tk 5 (opN rfl) (by kernel_rfl) (by rfl) (by (intro w hSw; (try dsimp only at hSw); go_simp; first | done | with_reducible rfl)) (by assumption) ?_
            try simp only [Act.put, List.setIfInBounds_toArray, List.set_cons_zero, List.set_cons_succ]
            refine tk 6 (opN rfl) (by kernel_rfl) (by rfl) (by (intro w hSw; (try dsimp only at hSw); go_simp; first | done | with_reducible rfl)) (by assumption) ?_
            try simp only [Act.put, List.setIfInBounds_toArray, List.set_cons_zero, List.set_cons_succ]
            refine tk 7 (opN rfl) (by kernel_rfl) (by rfl) (by (intro w hSw; (try dsimp only at hSw); go_simp; first | done | with_reducible rfl)) (by assumption) ?_
            try simp only [Act.put, List.setIfInBounds_toArray, List.set_cons_zero, List.set_cons_succ]
            refine tk 8 (opN rfl) (by kernel_rfl) (by rfl) (by (intro w hSw; (try dsimp only at hSw); go_simp; first | done | with_reducible rfl)) (by assumption) ?_
            try simp only [Act.put, List.setIfInBounds_toArray, List.set_cons_zero, List.set_cons_succ]
            refine tk 9 (opN rfl) (by kernel_rfl) (by rfl) (by (intro w hSw; (try dsimp only at hSw); go_simp; first | done | with_reducible rfl)) (by assumption) ?_
            try simp only [Act.put, List.setIfInBounds_toArray, List.set_cons_zero, List.set_cons_succ]
            refine tk 10 (opN rfl) (by kernel_rfl) (by rfl) (by (intro w hSw; (try dsimp only at hSw); go_simp; first | done | with_reducible rfl)) (by assumption) ?_
            try simp only [Act.put, List.setIfInBounds_toArray, List.set_cons_zero, List.set_cons_succ]
            refine tk 11 (opN rfl) (by kernel_rfl) (by rfl) (by (intro w hSw; (try dsimp only at hSw); go_simp; first | done | with_reducible rfl)) (by assumption) ?_
            try simp only [Act.put, List.setIfInBounds_toArray, List.set_cons_zero, List.set_cons_succ]
            refine tk 12 (opN rfl) (by kernel_rfl) (by rfl) (by (intro w hSw; (try dsimp only at hSw); go_simp; first | done | with_reducible rfl)) (by assumption) ?_
            try simp only [Act.put, List.setIfInBounds_toArray, List.set_cons_zero, List.set_cons_succ]
            refine tk 13 (opN rfl) (by kernel_rfl) (by rfl) (by (intro w hSw; (try dsimp only at hSw); go_simp; first | done | with_reducible rfl)) (by assumption) ?_
            try simp only [Act.put, List.setIfInBounds_toArray, List.set_cons_zero, List.set_cons_succ]
            refine tk 14 (opN rfl) (by kernel_rfl) (by rfl) (by (intro w hSw; (try dsimp only at hSw); go_simp; first | done | with_reducible rfl)) (by assumption) ?_
            try simp only [Act.put, List.setIfInBounds_toArray, List.set_cons_zero, List.set_cons_succ]
            refine tk 15 (opN rfl) (by kernel_rfl) (by rfl) (by (intro w hSw; (try dsimp only at hSw); go_simp; first | done | with_reducible rfl)) (by assumption) ?_
            try simp only [Act.put, List.setIfInBounds_toArray, List.set_cons_zero, List.set_cons_succ]
            refine wpAnyH_ready (rs := [16]) (by kernel_rfl) (by simp) ?_
            refine AllReadyH.cons (opN rfl) (fun K hK => ?_) AllReadyH.nil
            go_simp
            go_at_call 108
            refine (C_spec_EqualNames _ _ _ _ _ (Ty.rd_below (by (repeat' (first | (with_reducible exact Below.refl _ _) | (with_reducible assumption) | (with_reducible refine bel_set ?_ (by (try dsimp only); omega) _) | (with_reducible refine bel_alloc ?_ _) | (with_reducible refine bel_drewN ?_ _) | (with_reducible refine bel_drew ?_) | (with_reducible refine bel_trans ?_ (by assumption)))); done) ag0) (Ty.rd_below (by (repeat' (first | (with_reducible exact Below.refl _ _) | (with_reducible assumption) | (with_reducible refine bel_set ?_ (by (try dsimp only); omega) _) | (with_reducible refine bel_alloc ?_ _) | (with_reducible refine bel_drewN ?_ _) | (with_reducible refine bel_drew ?_) | (with_reducible refine bel_trans ?_ (by assumption)))); done) (Ty.rd_below hw qg0))).mono ?_
            rw [q0]
            rintro e w1 ⟨rfl, hb1⟩
            have hv1 : Below wr.heap.size wr w1 := (by (repeat' (first | (with_reducible exact Below.refl _ _) | (with_reducible assumption) | (with_reducible refine bel_set ?_ (by (try dsimp only); omega) _) | (with_reducible refine bel_alloc ?_ _) | (with_reducible refine bel_drewN ?_ _) | (with_reducible refine bel_drew ?_) | (with_reducible refine bel_trans ?_ (by assumption)))); done)
            refine hK.out _ _ ?_ (fun hHeld => ?_)
            · (try dsimp only)
              exact HH.out _ (by (repeat' (first | (with_reducible exact Below.refl _ _) | (with_reducible assumption) | (with_reducible refine bel_set ?_ (by (try dsimp only); omega) _) | (with_reducible refine bel_alloc ?_ _) | (with_reducible refine bel_drewN ?_ _) | (with_reducible refine bel_drew ?_) | (with_reducible refine bel_trans ?_ (by assumption)))); done)
            clear hK K
            try simp only [Act.put, List.setIfInBounds_toArray, List.set_cons_zero, List.set_cons_succ]
            refine tk 17 (opN rfl) (by kernel_rfl) (by rfl) (by (intro w hSw; (try dsimp only at hSw); go_simp; first | done | with_reducible rfl)) (by assumption) ?_
            try simp only [Act.put, List.setIfInBounds_toArray, List.set_cons_zero, List.set_cons_succ]
            refine wpAnyH_done (by kernel_rfl) ?_ _
            refine NoPanic.normal ?_
          · have HZ := Lib.hid (show askedBy q l[k] = false from by rw [HP.out, q0]; rfl)
            clear q0 hd hd2
            go_wp2
            go_roundw
            case rel => exact ⟨k + 1, by omega, by go_num, by rw [HS.out, HT.out, HZ.out]; rfl, bel_trans hb hv1⟩
            case measure => simp [intOf]; omega
          · have HZ := Lib.hid q0
            clear q0 hd hd2
            have HSA := Lib.hid (any_take_succ (nonceIs q.2.1) l[k].2.1 hjl)
            obtain ⟨u0, u1, u2, u3, f0, f1, f2⟩ := (HH.out _ hv1).2
            obtain ⟨b3, o3, ds3, rfl, hl3, hcell3, hrd3⟩ := Ty.rd_at (Ty.rd_below hv1 ag1) hjl
            obtain ⟨rfl, _, _, _⟩ := rd_Requester hrd3
            have g1 : w1.cell? ⟨b3, o3 + j * 3 + 1, none⟩ = some (.int .i64 (l[k].2.1)[j].2.1) := by simpa [Ty.sz] using hcell3 1 (by decide)
            clear hcell3 hl3
            have i2 : (0 : Int) ≤ (j : Int) := by omega
            have i3 : (j : Int) < (List.length l[k].2.1 : Int) := by omega
            cases q5 : ((l[k].2.1)[j].2.1 == q.2.1)
            · have HQ := Lib.hid (show nonceIs q.2.1 (l[k].2.1)[j] = false from by unfold nonceIs; simpa using q5)
              go_wp2
              go_quiet (fail)
              go_wp2
              go_roundw
              case rel => exact ⟨j + 1, by omega, by go_num, by rw [HSA.out, HTA.out, HQ.out]; rfl, (by (repeat' (first | (with_reducible exact Below.refl _ _) | (with_reducible assumption) | (with_reducible refine bel_set ?_ (by (try dsimp only); omega) _) | (with_reducible refine bel_alloc ?_ _) | (with_reducible refine bel_drewN ?_ _) | (with_reducible refine bel_drew ?_) | (with_reducible refine bel_trans ?_ (by assumption)))); done)⟩
              case measure => simp [intOf]; omega
            · have HQ := Lib.hid (show f_IsLoop l s q = true from by
                rw [HF.out, any_true_of (askedBy q) l hlt (by rw [HP.out, HZ.out, any_true_of (nonceIs q.2.1) l[k].2.1 hjl (by unfold nonceIs; simpa using q5)]; rfl)]; rfl)
              go_wp2
              go_quiet (fail)
              go_wp2
              go_ret
              exact ⟨ret_bool (by rw [HQ.out]), bel_trans hvb (by (repeat' (first | (with_reducible exact Below.refl _ _) | (with_reducible assumption) | (with_reducible refine bel_set ?_ (by (try dsimp only); omega) _) | (with_reducible refine bel_alloc ?_ _) | (with_reducible refine bel_drewN ?_ _) | (with_reducible refine bel_drew ?_) | (with_reducible refine bel_trans ?_ (by assumption)))); done)⟩
        · have hd : decide ((j : Int) < (List.length l[k].2.1 : Int)) = false := by simpa using hjl
          have hd2 : decide (j < List.length l[k].2.1) = false := by simpa using hjl
          have HZ := Lib.hid (show askedBy q l[k] = false from by
            have h1 := HTA.out
            rw [List.take_of_length_le (by omega)] at h1
            rw [HP.out, h1]; simp)
          go_wp2_with fail
          refine wp_region_noPanic ?_
          refine wp_region_held_drew (S := (fun W => Below WX.heap.size WX W ∧ W.cell? ⟨w.heap.size, 0, none⟩ = some (.slice Aq0 (List.length q.1) cq0) ∧ W.cell? ⟨w.heap.size, 1, none⟩ = some (.int .i64 q.2.1) ∧ W.cell? ⟨w.heap.size, 2, none⟩ = some (.int .i64 q.2.2.1) ∧ W.cell? ⟨w.heap.size, 3, none⟩ = some (.int .i64 q.2.2.2) ∧ W.cell? ⟨b, o + k * 3, none⟩ = some (.slice Aa0 (List.length l[k].1) ca0) ∧ W.cell? ⟨b, o + k * 3 + 1, none⟩ = some (.slice Aa1 (List.length l[k].2.1) ca1) ∧ W.cell? ⟨b, o + k * 3 + 2, none⟩ = some (.int .i64 l[k].2.2))) (by kernel_rfl) ?_ (fun hHeld => ?_)
          · exact HH.out _ (by (repeat' (first | (with_reducible exact Below.refl _ _) | (with_reducible assumption) | (with_reducible refine bel_set ?_ (by (try dsimp only); omega) _) | (with_reducible refine bel_alloc ?_ _) | (with_reducible refine bel_drewN ?_ _) | (with_reducible refine bel_drew ?_) | (with_reducible refine bel_trans ?_ (by assumption)))); done)
          refine tk 0 (opN rfl) (by kernel_rfl) (by rfl) (by (intro w hSw; (try dsimp only at hSw); go_simp; first | done | with_reducible rfl)) (by assumption) ?_
          try simp only [Act.put, List.setIfInBounds_toArray, List.set_cons_zero, List.set_cons_succ]
          refine tk 1 (opN rfl) (by kernel_rfl) (by rfl) (by (intro w hSw; (try dsimp only at hSw); go_simp; first | done | with_reducible rfl)) (by assumption) ?_
          try simp only [Act.put, List.setIfInBounds_toArray, List.set_cons_zero, List.set_cons_succ]
          refine tk 2 (opN rfl) (by kernel_rfl) (by rfl) (by (intro w hSw; (try dsimp only at hSw); go_simp; first | done | with_reducible rfl)) (by assumption) ?_
          try simp only [Act.put, List.setIfInBounds_toArray, List.set_cons_zero, List.set_cons_succ]
          refine tk 3 (opN rfl) (by kernel_rfl) (by rfl) (by (intro w hSw; (try dsimp only at hSw); go_simp; first | done | with_reducible rfl)) (by assumption) ?_
          try simp only [Act.put, List.setIfInBounds_toArray, List.set_cons_zero, List.set_cons_succ]
          refine tk 4 (opN rfl) (by kernel_rfl) (by rfl) (by (intro w hSw; (try dsimp only at hSw); go_simp; first | done | with_reducible rfl)) (by assumption) ?_
          try simp only [Act.put, List.setIfInBounds_toArray, List.set_cons_zero, List.set_cons_succ]
          refine tk 5 (opN rfl) (by kernel_rfl) (by rfl) (by (intro w hSw; (try dsimp only at hSw); go_simp; first | done | with_reducible rfl)) (by assumption) ?_
          try simp only [Act.put, List.setIfInBounds_toArray, List.set_cons_zero, List.set_cons_succ]
          refine tk 6 (opN rfl) (by kernel_rfl) (by rfl) (by (intro w hSw; (try dsimp only at hSw); go_simp; first | done | with_reducible rfl)) (by assumption) ?_
          try simp only [Act.put, List.setIfInBounds_toArray, List.set_cons_zero, List.set_cons_succ]
          refine tk 7 (opN rfl) (by kernel_rfl) (by rfl) (by (intro w hSw; (try dsimp only at hSw); go_simp; first | done | with_reducible rfl)) (by assumption) ?_
          try simp only [Act.put, List.setIfInBounds_toArray, List.set_cons_zero, List.set_cons_succ]
          refine tk 8 (opN rfl) (by kernel_rfl) (by rfl) (by (intro w hSw; (try dsimp only at hSw); go_simp; first | done | with_reducible rfl)) (by assumption) ?_
          try simp only [Act.put, List.setIfInBounds_toArray, List.set_cons_zero, List.set_cons_succ]
          refine sk 9 (opN rfl) (by kernel_rfl) (by rfl) (by assumption) ?_
          try simp only [Act.put, List.setIfInBounds_toArray, List.set_cons_zero, List.set_cons_succ]
          refine sk 10 (opN rfl) (by kernel_rfl) (by rfl) (by assumption) ?_
          try simp only [Act.put, List.setIfInBounds_toArray, List.set_cons_zero, List.set_cons_succ]
          refine sk 11 (opN rfl) (by kernel_rfl) (by rfl) (by assumption) ?_
          try simp only [Act.put, List.setIfInBounds_toArray, List.set_cons_zero, List.set_cons_succ]
          refine sk 12 (opN rfl) (by kernel_rfl) (by rfl) (by assumption) ?_
          try simp only [Act.put, List.setIfInBounds_toArray, List.set_cons_zero, List.set_cons_succ]
          refine sk 13 (opN rfl) (by kernel_rfl) (by rfl) (by assumption) ?_
          try simp only [Act.put, List.setIfInBounds_toArray, List.set_cons_zero, List.set_cons_succ]
          refine sk 14 (opN rfl) (by kernel_rfl) (by rfl) (by assumption) ?_
          try simp only [Act.put, List.setIfInBounds_toArray, List.set_cons_zero, List.set_cons_succ]
          refine sk 15 (opN rfl) (by kernel_rfl) (by rfl) (by assumption) ?_
          try simp only [Act.put, List.setIfInBounds_toArray, List.set_cons_zero, List.set_cons_succ]
          refine sk 16 (opN rfl) (by kernel_rfl) (by rfl) (by assumption) ?_
          try simp only [Act.put, List.setIfInBounds_toArray, List.set_cons_zero, List.set_cons_succ]
          refine tk 17 (opN rfl) (by kernel_rfl) (by rfl) (by (intro w hSw; (try dsimp only at hSw); go_simp; first | done | with_reducible rfl)) (by assumption) ?_
          try simp only [Act.put, List.setIfInBounds_toArray, List.set_cons_zero, List.set_cons_succ]
          refine wpAnyH_done (by kernel_rfl) ?_ _
          refine NoPanic.normal ?_
          clear hd hd2
          go_wp2
          go_roundw
          case rel => exact ⟨k + 1, by omega, by go_num, by rw [HS.out, HT.out, HZ.out]; rfl, (by (repeat' (first | (with_reducible exact Below.refl _ _) | (with_reducible assumption) | (with_reducible refine bel_set ?_ (by (try dsimp only); omega) _) | (with_reducible refine bel_alloc ?_ _) | (with_reducible refine bel_drewN ?_ _) | (with_reducible refine bel_drew ?_) | (with_reducible refine bel_trans ?_ (by assumption)))); done)⟩
          case measure => simp [intOf]; omega
    · have HE : Hid (l.any (askedBy q) = false) := by have := HT.out; rwa [List.take_of_length_le (by omega)] at this
      have hd : decide (k < l.length) = false := by simpa using hlt
      go_wp2
      clear hd
      go_loopw [9] (fun i wr => ∃ k : Nat, k ≤ s.length ∧ i = .int .i64 k ∧ (s.take k).any (seenBy q) = false ∧ Below WX.heap.size WX wr) (fun i _ => s.length - (intOf i).toNat)
      case atStart => exact ⟨0, by omega, by first | rfl | simp, by first | rfl | simp, hb⟩
      case round =>
        clear hb hw
        obtain ⟨k, hk, rfl, ht, hb⟩ := hrel
        have hw : Below w.heap.size w wr := bel_trans hvb hb
        have HTA := Lib.hid ht
        clear ht
        by_cases hlt : k < s.length
        · have HS := Lib.hid (any_take_succ (seenBy q) s hlt)
          have HP := Lib.hid (show seenBy q s[k] = (decide (s[k].1 = q.1) && decide (s[k].2 = q.2.1)) from rfl)
          obtain ⟨b, o, dsa, rfl, hla, hcella, hrda⟩ := Ty.rd_at (Ty.rd_below hw h2) hlt
          have hrda' := hrda
          obtain ⟨Aa0, ca0, rfl, ag0, ag1⟩ := rd_SeenNonce hrda
          have e0 : wr.cell? ⟨b, o + k * 2, none⟩ = some (.slice Aa0 (List.length s[k].1) ca0) := by simpa [Ty.sz] using hcella 0 (by decide)
          have e1 : wr.cell? ⟨b, o + k * 2 + 1, none⟩ = some (.int .i64 s[k].2) := by simpa [Ty.sz] using hcella 1 (by decide)
          clear hcella hla
          have hlb : b < wr.heap.size := World.block_lt_of_cell? wr _ e0
          have HH : Hid (∀ W, Below wr.heap.size wr W → Below WX.heap.size WX W ∧ W.cell? ⟨w.heap.size, 0, none⟩ = some (.slice Aq0 (List.length q.1) cq0) ∧ W.cell? ⟨w.heap.size, 1, none⟩ = some (.int .i64 q.2.1) ∧ W.cell? ⟨w.heap.size, 2, none⟩ = some (.int .i64 q.2.2.1) ∧ W.cell? ⟨w.heap.size, 3, none⟩ = some (.int .i64 q.2.2.2) ∧ W.cell? ⟨b, o + k * 2, none⟩ = some (.slice Aa0 (List.length s[k].1) ca0) ∧ W.cell? ⟨b, o + k * 2 + 1, none⟩ = some (.int .i64 s[k].2)) := fun W hW => ⟨bel_trans hb hW, (HC.out _ (bel_trans hb hW)).1, (HC.out _ (bel_trans hb hW)).2.1, (HC.out _ (bel_trans hb hW)).2.2.1, (HC.out _ (bel_trans hb hW)).2.2.2, (hW.cell hlb).trans e0, (hW.cell hlb).trans e1⟩
          have hv0 : Below wr.heap.size wr wr := Below.refl _ _
          have i0 : (0 : Int) ≤ (k : Int) := by omega
          have i1 : (k : Int) < (s.length : Int) := by omega
          cases q5 : (s[k].2 == q.2.1)
          · have HZ := Lib.hid (show seenBy q s[k] = false from by rw [HP.out, show decide (s[k].2 = q.2.1) = false from by simpa using q5]; simp)
            go_wp2_with fail
            refine wp_region_noPanic ?_
            refine wp_region_held_drew (S := (fun W => Below WX.heap.size WX W ∧ W.cell? ⟨w.heap.size, 0, none⟩ = some (.slice Aq0 (List.length q.1) cq0) ∧ W.cell? ⟨w.heap.size, 1, none⟩ = some (.int .i64 q.2.1) ∧ W.cell? ⟨w.heap.size, 2, none⟩ = some (.int .i64 q.2.2.1) ∧ W.cell? ⟨w.heap.size, 3, none⟩ = some (.int .i64 q.2.2.2) ∧ W.cell? ⟨b, o + k * 2, none⟩ = some (.slice Aa0 (List.length s[k].1) ca0) ∧ W.cell? ⟨b, o + k * 2 + 1, none⟩ = some (.int .i64 s[k].2))) (by kernel_rfl) ?_ (fun hHeld => ?_)
            · exact HH.out _ (by (repeat' (first | (with_reducible exact Below.refl _ _) | (with_reducible assumption) | (with_reducible refine bel_set ?_ (by (try dsimp only); omega) _) | (with_reducible refine bel_alloc ?_ _) | (with_reducible refine bel_drewN ?_ _) | (with_reducible refine bel_drew ?_) | (with_reducible refine bel_trans ?_ (by assumption)))); done)
            refine tk 0 (opN rfl) (by kernel_rfl) (by rfl) (by (intro w hSw; (try dsimp only at hSw); go_simp; first | done | with_reducible rfl)) (by assumption) ?_
            try simp only [Act.put, List.setIfInBounds_toArray, List.set_cons_zero, List.set_cons_succ]
            refine tk 1 (opN rfl) (by kernel_rfl) (by rfl) (by (intro w hSw; (try dsimp only at hSw); go_simp; first | done | with_reducible rfl)) (by assumption) ?_
            try simp only [Act.put, List.setIfInBounds_toArray, List.set_cons_zero, List.set_cons_succ]
            refine tk 2 (opN rfl) (by kernel_rfl) (by rfl) (by (intro w hSw; (try dsimp only at hSw); go_simp; first | done | with_reducible rfl)) (by assumption) ?_
            try simp only [Act.put, List.setIfInBounds_toArray, List.set_cons_zero, List.set_cons_succ]
            refine tk 3 (opN rfl) (by kernel_rfl) (by rfl) (by (intro w hSw; (try dsimp only at hSw); go_simp; first | done | with_reducible rfl)) (by assumption) ?_
            try simp only [Act.put, List.setIfInBounds_toArray, List.set_cons_zero, List.set_cons_succ]
            refine tk 4 (opN rfl) (by kernel_rfl) (by rfl) (by (intro w hSw; (try dsimp only at hSw); go_simp; first | done | with_reducible rfl)) (by assumption) ?_
            try simp only [Act.put, List.setIfInBounds_toArray, List.set_cons_zero, List.set_cons_succ]
            refine tk 5 (opN rfl) (by kernel_rfl) (by rfl) (by (intro w hSw; (try dsimp only at hSw); go_simp; first | done | with_reducible rfl)) (by assumption) ?_
            try simp only [Act.put, List.setIfInBounds_toArray, List.set_cons_zero, List.set_cons_succ]
            refine tk 6 (opN rfl) (by kernel_rfl) (by rfl) (by (intro w hSw; (try dsimp only at hSw); go_simp; first | done | with_reducible rfl)) (by assumption) ?_
            try simp only [Act.put, List.setIfInBounds_toArray, List.set_cons_zero, List.set_cons_succ]
            refine tk 7 (opN rfl) (by kernel_rfl) (by rfl) (by (intro w hSw; (try dsimp only at hSw); go_simp; first | done | with_reducible rfl)) (by assumption) ?_
            try simp only [Act.put, List.setIfInBounds_toArray, List.set_cons_zero, List.set_cons_succ]
            refine tk 8 (opN rfl) (by kernel_rfl) (by rfl) (by (intro w hSw; (try dsimp only at hSw); go_simp; first | done | with_reducible rfl)) (by assumption) ?_
            try simp only [Act.put, List.setIfInBounds_toArray, List.set_cons_zero, List.set_cons_succ]
            refine sk 9 (opN rfl) (by kernel_rfl) (by rfl) (by assumption) ?_
            try simp only [Act.put, List.setIfInBounds_toArray, List.set_cons_zero, List.set_cons_succ]
            refine sk 10 (opN rfl) (by kernel_rfl) (by rfl) (by assumption) ?_
            try simp only [Act.put, List.setIfInBounds_toArray, List.set_cons_zero, List.set_cons_succ]
            refine sk 11 (opN rfl) (by kernel_rfl) (by rfl) (by assumption) ?_
            try simp only [Act.put, List.setIfInBounds_toArray, List.set_cons_zero, List.set_cons_succ]
            refine sk 12 (opN rfl) (by kernel_rfl) (by rfl) (by assumption) ?_
            try simp only [Act.put, List.setIfInBounds_toArray, List.set_cons_zero, List.set_cons_succ]
            refine sk 13 (opN rfl) (by kernel_rfl) (by rfl) (by assumption) ?_
            try simp only [Act.put, List.setIfInBounds_toArray, List.set_cons_zero, List.set_cons_succ]
            refine sk 14 (opN rfl) (by kernel_rfl) (by rfl) (by assumption) ?_
            try simp only [Act.put, List.setIfInBounds_toArray, List.set_cons_zero, List.set_cons_succ]
            refine sk 15 (opN rfl) (by kernel_rfl) (by rfl) (by assumption) ?_
            try simp only [Act.put, List.setIfInBounds_toArray, List.set_cons_zero, List.set_cons_succ]
            refine sk 16 (opN rfl) (by kernel_rfl) (by rfl) (by assumption) ?_
            try simp only [Act.put, List.setIfInBounds_toArray, List.set_cons_zero, List.set_cons_succ]
            refine tk 17 (opN rfl) (by kernel_rfl) (by rfl) (by (intro w hSw; (try dsimp only at hSw); go_simp; first | done | with_reducible rfl)) (by assumption) ?_
            try simp only [Act.put, List.setIfInBounds_toArray, List.set_cons_zero, List.set_cons_succ]
            refine wpAnyH_done (by kernel_rfl) ?_ _
            refine NoPanic.normal ?_
            go_wp2
            go_roundw
            case rel => exact ⟨k + 1, by omega, by go_num, by rw [HS.out, HTA.out, HZ.out]; rfl, (by (repeat' (first | (with_reducible exact Below.refl _ _) | (with_reducible assumption) | (with_reducible refine bel_set ?_ (by (try dsimp only); omega) _) | (with_reducible refine bel_alloc ?_ _) | (with_reducible refine bel_drewN ?_ _) | (with_reducible refine bel_drew ?_) | (with_reducible refine bel_trans ?_ (by assumption)))); done)⟩
            case measure => simp [intOf]; omega
          · have HQ := Lib.hid (show decide (s[k].2 = q.2.1) = true from by simpa using q5)
            cases q0 : decide (s[k].1 = q.1)
            all_goals
              go_wp2_with fail
              refine wp_region_noPanic ?_
              refine wp_region_held_drew (S := (fun W => Below WX.heap.size WX W ∧ W.cell? ⟨w.heap.size, 0, none⟩ = some (.slice Aq0 (List.length q.1) cq0) ∧ W.cell? ⟨w.heap.size, 1, none⟩ = some (.int .i64 q.2.1) ∧ W.cell? ⟨w.heap.size, 2, none⟩ = some (.int .i64 q.2.2.1) ∧ W.cell? ⟨w.heap.size, 3, none⟩ = some (.int .i64 q.2.2.2) ∧ W.cell? ⟨b, o + k * 2, none⟩ = some (.slice Aa0 (List.length s[k].1) ca0) ∧ W.cell? ⟨b, o + k * 2 + 1, none⟩ = some (.int .i64 s[k].2))) (by kernel_rfl) ?_ (fun hHeld => ?_)
              · exact HH.out _ (by (repeat' (first | (with_reducible exact Below.refl _ _) | (with_reducible assumption) | (with_reducible refine bel_set ?_ (by (try dsimp only); omega) _) | (with_reducible refine bel_alloc ?_ _) | (with_reducible refine bel_drewN ?_ _) | (with_reducible refine bel_drew ?_) | (with_reducible refine bel_trans ?_ (by assumption)))); done)
              refine tk 0 (opN rfl) (by kernel_rfl) (by rfl) (by (intro w hSw; (try dsimp only at hSw); go_simp; first | done | with_reducible rfl)) (by assumption) ?_
              try simp only [Act.put, List.setIfInBounds_toArray, List.set_cons_zero, List.set_cons_succ]
              refine tk 1 (opN rfl) (by kernel_rfl) (by rfl) (by (intro w hSw; (try dsimp only at hSw); go_simp; first | done | with_reducible rfl)) (by assumption) ?_
              try simp only [Act.put, List.setIfInBounds_toArray, List.set_cons_zero, List.set_cons_succ]
              refine tk 2 (opN rfl) (by kernel_rfl) (by rfl) (by (intro w hSw; (try dsimp only at hSw); go_simp; first | done | with_reducible rfl)) (by assumption) ?_
              try simp only [Act.put, List.setIfInBounds_toArray, List.set_cons_zero, List.set_cons_succ]
              refine tk 3 (opN rfl) (by kernel_rfl) (by rfl) (by (intro w hSw; (try dsimp only at hSw); go_simp; first | done | with_reducible rfl)) (by assumption) ?_
              try simp only [Act.put, List.setIfInBounds_toArray, List.set_cons_zero, List.set_cons_succ]
              refine tk 4 (opN rfl) (by kernel_rfl) (by rfl) (by (intro w hSw; (try dsimp only at hSw); go_simp; first | done | with_reducible rfl)) (by assumption) ?_
              try simp only [Act.put, List.setIfInBounds_toArray, List.set_cons_zero, List.set_cons_succ]
              refine tk 5 (opN rfl) (by kernel_rfl) (by rfl) (by (intro w hSw; (try dsimp only at hSw); go_simp; first | done | with_reducible rfl)) (by assumption) ?_
              try simp only [Act.put, List.setIfInBounds_toArray, List.set_cons_zero, List.set_cons_succ]
              refine tk 6 (opN rfl) (by kernel_rfl) (by rfl) (by (intro w hSw; (try dsimp only at hSw); go_simp; first | done | with_reducible rfl)) (by assumption) ?_
              try simp only [Act.put, List.setIfInBounds_toArray, List.set_cons_zero, List.set_cons_succ]
              refine tk 7 (opN rfl) (by kernel_rfl) (by rfl) (by (intro w hSw; (try dsimp only at hSw); go_simp; first | done | with_reducible rfl)) (by assumption) ?_
              try simp only [Act.put, List.setIfInBounds_toArray, List.set_cons_zero, List.set_cons_succ]
              refine tk 8 (opN rfl) (by kernel_rfl) (by rfl) (by (intro w hSw; (try dsimp only at hSw); go_simp; first | done | with_reducible rfl)) (by assumption) ?_
              try simp only [Act.put, List.setIfInBounds_toArray, List.set_cons_zero, List.set_cons_succ]
              refine tk 9 (opN rfl) (by kernel_rfl) (by rfl) (by (intro w hSw; (try dsimp only at hSw); go_simp; first | done | with_reducible rfl)) (by assumption) ?_
              try simp only [Act.put, List.setIfInBounds_toArray, List.set_cons_zero, List.set_cons_succ]
              refine tk 10 (opN rfl) (by kernel_rfl) (by rfl) (by (intro w hSw; (try dsimp only at hSw); go_simp; first | done | with_reducible rfl)) (by assumption) ?_
              try simp only [Act.put, List.setIfInBounds_toArray, List.set_cons_zero, List.set_cons_succ]
              refine tk 11 (opN rfl) (by kernel_rfl) (by rfl) (by (intro w hSw; (try dsimp only at hSw); go_simp; first | done | with_reducible rfl)) (by assumption) ?_
              try simp only [Act.put, List.setIfInBounds_toArray, List.set_cons_zero, List.set_cons_succ]
              refine tk 12 (opN rfl) (by kernel_rfl) (by rfl) (by (intro w hSw; (try dsimp only at hSw); go_simp; first | done | with_reducible rfl)) (by assumption) ?_
              try simp only [Act.put, List.setIfInBounds_toArray, List.set_cons_zero, List.set_cons_succ]
              refine tk 13 (opN rfl) (by kernel_rfl) (by rfl) (by (intro w hSw; (try dsimp only at hSw); go_simp; first | done | with_reducible rfl)) (by assumption) ?_
              try simp only [Act.put, List.setIfInBounds_toArray, List.set_cons_zero, List.set_cons_succ]
              refine tk 14 (opN rfl) (by kernel_rfl) (by rfl) (by (intro w hSw; (try dsimp only at hSw); go_simp; first | done | with_reducible rfl)) (by assumption) ?_
              try simp only [Act.put, List.setIfInBounds_toArray, List.set_cons_zero, List.set_cons_succ]
              refine tk 15 (opN rfl) (by kernel_rfl) (by rfl) (by (intro w hSw; (try dsimp only at hSw); go_simp; first | done | with_reducible rfl)) (by assumption) ?_
              try simp only [Act.put, List.setIfInBounds_toArray, List.set_cons_zero, List.set_cons_succ]
              refine wpAnyH_ready (rs := [16]) (by kernel_rfl) (by simp) ?_
              refine AllReadyH.cons (opN rfl) (fun K hK => ?_) AllReadyH.nil
              go_simp
              go_at_call 108
              refine (C_spec_EqualNames _ _ _ _ _ (Ty.rd_below (by (repeat' (first | (with_reducible exact Below.refl _ _) | (with_reducible assumption) | (with_reducible refine bel_set ?_ (by (try dsimp only); omega) _) | (with_reducible refine bel_alloc ?_ _) | (with_reducible refine bel_drewN ?_ _) | (with_reducible refine bel_drew ?_) | (with_reducible refine bel_trans ?_ (by assumption)))); done) ag0) (Ty.rd_below (by (repeat' (first | (with_reducible exact Below.refl _ _) | (with_reducible assumption) | (with_reducible refine bel_set ?_ (by (try dsimp only); omega) _) | (with_reducible refine bel_alloc ?_ _) | (with_reducible refine bel_drewN ?_ _) | (with_reducible refine bel_drew ?_) | (with_reducible refine bel_trans ?_ (by assumption)))); done) (Ty.rd_below hw qg0))).mono ?_
              rw [q0]
              rintro e w1 ⟨rfl, hb1⟩
              have hv1 : Below wr.heap.size wr w1 := (by (repeat' (first | (with_reducible exact Below.refl _ _) | (with_reducible assumption) | (with_reducible refine bel_set ?_ (by (try dsimp only); omega) _) | (with_reducible refine bel_alloc ?_ _) | (with_reducible refine bel_drewN ?_ _) | (with_reducible refine bel_drew ?_) | (with_reducible refine bel_trans ?_ (by assumption)))); done)
              refine hK.out _ _ ?_ (fun hHeld => ?_)
              · (try dsimp only)
                exact HH.out _ (by (repeat' (first | (with_reducible exact Below.refl _ _) | (with_reducible assumption) | (with_reducible refine bel_set ?_ (by (try dsimp only); omega) _) | (with_reducible refine bel_alloc ?_ _) | (with_reducible refine bel_drewN ?_ _) | (with_reducible refine bel_drew ?_) | (with_reducible refine bel_trans ?_ (by assumption)))); done)
              clear hK K
              try simp only [Act.put, List.setIfInBounds_toArray, List.set_cons_zero, List.set_cons_succ]
              refine tk 17 (opN rfl) (by kernel_rfl) (by rfl) (by (intro w hSw; (try dsimp only at hSw); go_simp; first | done | with_reducible rfl)) (by assumption) ?_
              try simp only [Act.put, List.setIfInBounds_toArray, List.set_cons_zero, List.set_cons_succ]
              refine wpAnyH_done (by kernel_rfl) ?_ _
              refine NoPanic.normal ?_
            · have HZ := Lib.hid (show seenBy q s[k] = false from by rw [HP.out, q0]; rfl)
              clear q0
              go_wp2
              go_roundw
              case rel => exact ⟨k + 1, by omega, by go_num, by rw [HS.out, HTA.out, HZ.out]; rfl, bel_trans hb hv1⟩
              case measure => simp [intOf]; omega
            · have HZ := Lib.hid (show f_IsLoop l s q = true from by rw [HF.out, HE.out, any_true_of (seenBy q) s hlt (by rw [HP.out, q0, HQ.out]; rfl)]; rfl)
              clear q0
              go_wp2
              go_ret
              exact ⟨ret_bool (by rw [HZ.out]), bel_trans hvb (bel_trans hb hv1)⟩
        · have HE2 : Hid (s.any (seenBy q) = false) := by have := HTA.out; rwa [List.take_of_length_le (by omega)] at this
          go_wp2
          go_ret
          exact ⟨ret_bool (by rw [HF.out, HE.out, HE2.out]; rfl), hw⟩
end Go.Proofs.Ytamodpeeocmneaa
