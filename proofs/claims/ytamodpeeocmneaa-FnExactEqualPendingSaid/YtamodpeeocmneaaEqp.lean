/- Pending interests are equal. Printed by gen20.py. -/
import Derived.Test.YtamodpeeocmneaaDat
import Derived.Test.YtamodpeeocmneaaIxf
import Derived.Test.YtamodpeeocmneaaStp
import Derived.Test.YtamodpeeocmneaaNb
import Derived.Deep.QuietTactic
import Derived.BigQuiet
namespace Go.Proofs.Ytamodpeeocmneaa
open Go.RowKit
set_option linter.unusedVariables false
set_option linter.unusedSimpArgs false

def f_EqualPending (x y : List (Ty.D tPendingInterest)) : Bool := decide (x = y)
theorem take_eq_succ {α : Type} {x y : List α} {k : Nat} (h1 : k < x.length) (h2 : k < y.length) (ht : x.take k = y.take k) (he : x[k] = y[k]) : x.take (k + 1) = y.take (k + 1) := by
  rw [List.take_succ_eq_append_getElem h1, List.take_succ_eq_append_getElem h2, ht, he]
theorem take_eq_all {α : Type} {x y : List α} {k : Nat} (h1 : x.length ≤ k) (h2 : y.length ≤ k) (ht : x.take k = y.take k) : x = y := by
  rwa [List.take_of_length_le h1, List.take_of_length_le h2] at ht
/-- Structs of three ints, held one against the other. -/
theorem req_eq {x y : Ty.D tRequester} (h1 : x.1 = y.1) (h2 : x.2.1 = y.2.1) (h3 : x.2.2 = y.2.2) : x = y := Prod.ext h1 (Prod.ext h2 h3)
set_option maxRecDepth 100000 in
set_option maxHeartbeats 1000000 in
theorem C_slices_Equal_req (w : World) (v1 v2 : Value) (x y : List (Ty.D tRequester)) (h1 : (Ty.sl tRequester).rd w [v1] x) (h2 : (Ty.sl tRequester).rd w [v2] y) :
    Calls Try.prog 112 #[v1, v2] w (RetB w (decide (x = y))) := by
  obtain ⟨A1, c1, rfl, hc1, hm1, hn1⟩ := Ty.rd_sl h1
  obtain ⟨A2, c2, rfl, hc2, hm2, hn2⟩ := Ty.rd_sl h2
  by_cases hl : x.length = y.length
  · have q1 : ((x.length : Int) != y.length) = false := by simp [hl]
    have HL := Lib.hid hl
    clear hl
    go_enter Try.func112, Try.ntmps112
    go_wp2
    go_loopw [13] (fun i wr => ∃ k : Nat, k ≤ x.length ∧ i = .int .i64 k ∧ x.take k = y.take k ∧ Below w.heap.size w wr) (fun i _ => x.length - (intOf i).toNat)
    case atStart => exact ⟨0, by omega, rfl, rfl, Below.refl _ _⟩
    case round =>
      obtain ⟨k, hk, rfl, htk, hb⟩ := hrel
      have HT := Lib.hid htk
      clear htk
      by_cases hlt : k < x.length
      · have hlt2 : k < y.length := by have := HL.out; omega
        obtain ⟨b, o, dsa, rfl, hla, hcella, hrda⟩ := Ty.rd_at (Ty.rd_below hb h1) hlt
        have hrda' := hrda
        obtain ⟨rfl, ag0, ag1, ag2⟩ := rd_Requester hrda
        have e0 : wr.cell? ⟨b, o + k * 3, none⟩ = some (.int .i64 x[k].1) := by simpa [Ty.sz] using hcella 0 (by decide)
        have e1 : wr.cell? ⟨b, o + k * 3 + 1, none⟩ = some (.int .i64 x[k].2.1) := by simpa [Ty.sz] using hcella 1 (by decide)
        have e2 : wr.cell? ⟨b, o + k * 3 + 2, none⟩ = some (.int .i64 x[k].2.2) := by simpa [Ty.sz] using hcella 2 (by decide)
        clear hcella hla
        obtain ⟨b2, o2, dsb, rfl, hlb, hcellb, hrdb⟩ := Ty.rd_at (Ty.rd_below hb h2) hlt2
        have hrdb' := hrdb
        obtain ⟨rfl, bg0, bg1, bg2⟩ := rd_Requester hrdb
        have f0 : wr.cell? ⟨b2, o2 + k * 3, none⟩ = some (.int .i64 y[k].1) := by simpa [Ty.sz] using hcellb 0 (by decide)
        have f1 : wr.cell? ⟨b2, o2 + k * 3 + 1, none⟩ = some (.int .i64 y[k].2.1) := by simpa [Ty.sz] using hcellb 1 (by decide)
        have f2 : wr.cell? ⟨b2, o2 + k * 3 + 2, none⟩ = some (.int .i64 y[k].2.2) := by simpa [Ty.sz] using hcellb 2 (by decide)
        clear hcellb hlb
        have i0 : (0 : Int) ≤ (k : Int) := by omega
        have i1 : (k : Int) < (x.length : Int) := by omega
        have i2 : (k : Int) < (y.length : Int) := by omega
        by_cases he : x[k] = y[k]
        · have q2 : (x[k].1 == y[k].1) = true := by simp [he]
          have q3 : (x[k].2.1 == y[k].2.1) = true := by simp [he]
          have q4 : (x[k].2.2 == y[k].2.2) = true := by simp [he]
          have HE := Lib.hid (take_eq_succ hlt hlt2 HT.out he)
          clear he
          go_wp2
          go_quiet (fail)
          go_wp2
          go_roundw
          case rel => exact ⟨k + 1, by omega, by go_num, HE.out, bel_drewN hb _⟩
          case measure => simp [intOf]; omega
        · have HE : Hid (¬ x = y) := fun h => he (by subst h; rfl)
          rcases (show (x[k].1 == y[k].1) = false ∨ ((x[k].1 == y[k].1) = true ∧ (x[k].2.1 == y[k].2.1) = false) ∨ ((x[k].1 == y[k].1) = true ∧ (x[k].2.1 == y[k].2.1) = true ∧ (x[k].2.2 == y[k].2.2) = false) from by
            cases h1 : (x[k].1 == y[k].1)
            · left; rfl
            · cases h2 : (x[k].2.1 == y[k].2.1)
              · right; left; exact ⟨rfl, rfl⟩
              · cases h3 : (x[k].2.2 == y[k].2.2)
                · right; right; exact ⟨rfl, rfl, rfl⟩
                · exact absurd (req_eq (by simpa using h1) (by simpa using h2) (by simpa using h3)) he) with q2 | ⟨q2, q3⟩ | ⟨q2, q3, q4⟩
          all_goals
            clear he
            go_wp2
            go_quiet (fail)
            go_wp2
            go_ret
            exact ⟨ret_bool (by simp [HE.out]), bel_drewN hb _⟩
      · have HE : Hid (x = y) := take_eq_all (k := k) (by omega) (by have := HL.out; omega) HT.out
        go_wp2
        go_ret
        exact ⟨ret_bool (by simp [HE.out]), hb⟩
  · have q1 : ((x.length : Int) != y.length) = true := by rw [bne_iff_ne]; omega
    have HE : Hid (¬ x = y) := fun h => hl (congrArg List.length h)
    go_enter Try.func112, Try.ntmps112
    go_wp2
    go_ret
    exact ⟨ret_bool (by simp [HE.out]), Below.refl _ _⟩
set_option maxHeartbeats 1000000 in
theorem C_impl_EqualPending1 (W : World) (ds1 : List Value) (x : Ty.D tPendingInterest) (ds2 : List Value) (y : Ty.D tPendingInterest) (h1 : tPendingInterest.rd W ds1 x) (h2 : tPendingInterest.rd W ds2 y) :
    Calls Try.prog 110 #[.agg ds1.toArray, .agg ds2.toArray] W (RetB W (decide (x = y))) := by
  obtain ⟨Ax0, cx0, Ax1, cx1, rfl, xg0, xg1, xg2⟩ := rd_PendingInterest h1
  obtain ⟨Ay0, cy0, Ay1, cy1, rfl, yg0, yg1, yg2⟩ := rd_PendingInterest h2
  have HF : Hid (decide (x = y) = (decide (x.1 = y.1) && (decide (x.2.1 = y.2.1) && decide (x.2.2 = y.2.2)))) := by
    show _ = _
    rw [Bool.eq_iff_iff]
    simp only [Bool.and_eq_true, decide_eq_true_eq]
    exact ⟨fun h => by subst h; exact ⟨rfl, rfl, rfl⟩, fun h => Prod.ext h.1 (Prod.ext h.2.1 h.2.2)⟩
  generalize decide (x = y) = F at HF ⊢
  have kb0_0 : ((W.alloc (.cells #[.slice Ax0 (List.length x.1) cx0, .slice Ax1 (List.length x.2.1) cx1, .int .i64 x.2.2] 124)).alloc (.cells #[.slice Ay0 (List.length y.1) cy0, .slice Ay1 (List.length y.2.1) cy1, .int .i64 y.2.2] 124)).cell? ⟨W.heap.size, 0, none⟩ = some (.slice Ax0 (List.length x.1) cx0) := ((World.cell?_alloc_lt _ _ _ (by simp only [World.size_alloc]; omega)).trans (cell_new W _ _ 0 (by first | rfl | simp only [World.size_alloc])))
  have kb0_1 : ((W.alloc (.cells #[.slice Ax0 (List.length x.1) cx0, .slice Ax1 (List.length x.2.1) cx1, .int .i64 x.2.2] 124)).alloc (.cells #[.slice Ay0 (List.length y.1) cy0, .slice Ay1 (List.length y.2.1) cy1, .int .i64 y.2.2] 124)).cell? ⟨W.heap.size, 1, none⟩ = some (.slice Ax1 (List.length x.2.1) cx1) := ((World.cell?_alloc_lt _ _ _ (by simp only [World.size_alloc]; omega)).trans (cell_new W _ _ 1 (by first | rfl | simp only [World.size_alloc])))
  have kb0_2 : ((W.alloc (.cells #[.slice Ax0 (List.length x.1) cx0, .slice Ax1 (List.length x.2.1) cx1, .int .i64 x.2.2] 124)).alloc (.cells #[.slice Ay0 (List.length y.1) cy0, .slice Ay1 (List.length y.2.1) cy1, .int .i64 y.2.2] 124)).cell? ⟨W.heap.size, 2, none⟩ = some (.int .i64 x.2.2) := ((World.cell?_alloc_lt _ _ _ (by simp only [World.size_alloc]; omega)).trans (cell_new W _ _ 2 (by first | rfl | simp only [World.size_alloc])))
  have kb1_0 : ((W.alloc (.cells #[.slice Ax0 (List.length x.1) cx0, .slice Ax1 (List.length x.2.1) cx1, .int .i64 x.2.2] 124)).alloc (.cells #[.slice Ay0 (List.length y.1) cy0, .slice Ay1 (List.length y.2.1) cy1, .int .i64 y.2.2] 124)).cell? ⟨W.heap.size + 1, 0, none⟩ = some (.slice Ay0 (List.length y.1) cy0) := (cell_new (W.alloc (.cells #[.slice Ax0 (List.length x.1) cx0, .slice Ax1 (List.length x.2.1) cx1, .int .i64 x.2.2] 124)) _ _ 0 (by first | rfl | simp only [World.size_alloc]))
  have kb1_1 : ((W.alloc (.cells #[.slice Ax0 (List.length x.1) cx0, .slice Ax1 (List.length x.2.1) cx1, .int .i64 x.2.2] 124)).alloc (.cells #[.slice Ay0 (List.length y.1) cy0, .slice Ay1 (List.length y.2.1) cy1, .int .i64 y.2.2] 124)).cell? ⟨W.heap.size + 1, 1, none⟩ = some (.slice Ay1 (List.length y.2.1) cy1) := (cell_new (W.alloc (.cells #[.slice Ax0 (List.length x.1) cx0, .slice Ax1 (List.length x.2.1) cx1, .int .i64 x.2.2] 124)) _ _ 1 (by first | rfl | simp only [World.size_alloc]))
  have kb1_2 : ((W.alloc (.cells #[.slice Ax0 (List.length x.1) cx0, .slice Ax1 (List.length x.2.1) cx1, .int .i64 x.2.2] 124)).alloc (.cells #[.slice Ay0 (List.length y.1) cy0, .slice Ay1 (List.length y.2.1) cy1, .int .i64 y.2.2] 124)).cell? ⟨W.heap.size + 1, 2, none⟩ = some (.int .i64 y.2.2) := (cell_new (W.alloc (.cells #[.slice Ax0 (List.length x.1) cx0, .slice Ax1 (List.length x.2.1) cx1, .int .i64 x.2.2] 124)) _ _ 2 (by first | rfl | simp only [World.size_alloc]))
  have hvb : Below W.heap.size W ((W.alloc (.cells #[.slice Ax0 (List.length x.1) cx0, .slice Ax1 (List.length x.2.1) cx1, .int .i64 x.2.2] 124)).alloc (.cells #[.slice Ay0 (List.length y.1) cy0, .slice Ay1 (List.length y.2.1) cy1, .int .i64 y.2.2] 124)) := (by repeat' (first | (with_reducible exact Below.refl _ _) | (with_reducible assumption) | (with_reducible refine bel_set ?_ (by (try dsimp only); omega) _) | (with_reducible refine bel_alloc ?_ _) | (with_reducible refine bel_drewN ?_ _) | (with_reducible refine bel_drew ?_)))
  have zb0 := Lib.hid (show ((W.alloc (.cells #[.slice Ax0 (List.length x.1) cx0, .slice Ax1 (List.length x.2.1) cx1, .int .i64 x.2.2] 124)).alloc (.cells #[.slice Ay0 (List.length y.1) cy0, .slice Ay1 (List.length y.2.1) cy1, .int .i64 y.2.2] 124)).heap.size = W.heap.size + 1 + 1 from by simp only [World.size_alloc])
  have zb : W.heap.size + 1 < ((W.alloc (.cells #[.slice Ax0 (List.length x.1) cx0, .slice Ax1 (List.length x.2.1) cx1, .int .i64 x.2.2] 124)).alloc (.cells #[.slice Ay0 (List.length y.1) cy0, .slice Ay1 (List.length y.2.1) cy1, .int .i64 y.2.2] 124)).heap.size := by simp only [World.size_alloc]; omega
  cases q5 : (x.2.2 == y.2.2)
  all_goals
    have HQ5 : Hid (decide (x.2.2 = y.2.2) = (x.2.2 == y.2.2)) := by show _ = _; rw [Bool.eq_iff_iff]; simp
    rw [q5] at HQ5
    go_enter Try.func110, Try.ntmps110
    go_wp2_with fail
    generalize ((W.alloc (.cells #[.slice Ax0 (List.length x.1) cx0, .slice Ax1 (List.length x.2.1) cx1, .int .i64 x.2.2] 124)).alloc (.cells #[.slice Ay0 (List.length y.1) cy0, .slice Ay1 (List.length y.2.1) cy1, .int .i64 y.2.2] 124)) = WX at kb0_0 kb0_1 kb0_2 kb1_0 kb1_1 kb1_2 hvb zb zb0 ⊢
    have HC : Hid (∀ V, Below WX.heap.size WX V → V.cell? ⟨W.heap.size, 0, none⟩ = some (.slice Ax0 (List.length x.1) cx0) ∧ V.cell? ⟨W.heap.size, 1, none⟩ = some (.slice Ax1 (List.length x.2.1) cx1) ∧ V.cell? ⟨W.heap.size, 2, none⟩ = some (.int .i64 x.2.2) ∧ V.cell? ⟨W.heap.size + 1, 0, none⟩ = some (.slice Ay0 (List.length y.1) cy0) ∧ V.cell? ⟨W.heap.size + 1, 1, none⟩ = some (.slice Ay1 (List.length y.2.1) cy1) ∧ V.cell? ⟨W.heap.size + 1, 2, none⟩ = some (.int .i64 y.2.2)) := fun V hW => ⟨(hW.cell (p := ⟨W.heap.size, 0, none⟩) (by dsimp only; omega)).trans kb0_0, (hW.cell (p := ⟨W.heap.size, 1, none⟩) (by dsimp only; omega)).trans kb0_1, (hW.cell (p := ⟨W.heap.size, 2, none⟩) (by dsimp only; omega)).trans kb0_2, (hW.cell (p := ⟨W.heap.size + 1, 0, none⟩) (by dsimp only; omega)).trans kb1_0, (hW.cell (p := ⟨W.heap.size + 1, 1, none⟩) (by dsimp only; omega)).trans kb1_1, (hW.cell (p := ⟨W.heap.size + 1, 2, none⟩) (by dsimp only; omega)).trans kb1_2⟩
    clear kb0_0 kb0_1 kb0_2 kb1_0 kb1_1 kb1_2
    refine (C_impl_EqualNames _ _ _ _ _ (Ty.rd_below hvb xg0) (Ty.rd_below hvb yg0)).mono ?_
    rintro e w1 ⟨rfl, hb1⟩
    obtain ⟨j0, j1, j2, j3, j4, j5⟩ := HC.out _ (hb1)
    have zw1 : W.heap.size + 1 < w1.heap.size := by have := hb1.size; omega
    have zw0 : W.heap.size < w1.heap.size := by omega
    cases q0 : decide (x.1 = y.1)
    · rw [q0] at HF
      go_wp2
      go_ret
      exact ⟨ret_bool (by rw [HF.out]; rfl), bel_trans hvb hb1⟩
    rw [q0] at HF
    go_wp2_with fail
    refine (C_slices_Equal_req _ _ _ _ _ (Ty.rd_below (bel_trans hvb hb1) xg1) (Ty.rd_below (bel_trans hvb hb1) yg1)).mono ?_
    rintro e w2 ⟨rfl, hb2⟩
    have hx2 : Below WX.heap.size WX w2 := bel_trans hb1 hb2
    clear j0 j1 j2 j3 j4 j5
    obtain ⟨j0, j1, j2, j3, j4, j5⟩ := HC.out _ (hx2)
    have zw3 : W.heap.size + 1 < w2.heap.size := by have := hx2.size; omega
    have zw4 : W.heap.size < w2.heap.size := by omega
    cases q1 : decide (x.2.1 = y.2.1)
    all_goals
      rw [q1] at HF
      go_wp2
      go_ret
      exact ⟨ret_bool (by rw [HF.out, HQ5.out]; rfl), bel_trans hvb hx2⟩
set_option maxRecDepth 100000 in
set_option maxHeartbeats 1000000 in
theorem C_EqualFunc_PI (w : World) (v1 v2 : Value) (x y : List (Ty.D tPendingInterest)) (g : Nat) (lb : Array Value) (eg : ∀ args w, (callFunc g args).run Try.prog w = .ok (.enter g args) w)
    (h1 : (Ty.sl tPendingInterest).rd w [v1] x) (h2 : (Ty.sl tPendingInterest).rd w [v2] y) (hp : ∀ (W : World) (ds1 : List Value) (d1 : Ty.D tPendingInterest) (ds2 : List Value) (d2 : Ty.D tPendingInterest), Ty.rd W tPendingInterest ds1 d1 → Ty.rd W tPendingInterest ds2 d2 → Below w.heap.size w W → Calls Try.prog g (#[.agg ds1.toArray, .agg ds2.toArray] ++ lb) W (RetB W (decide (d1 = d2)))) :
    Calls Try.prog 109 #[v1, v2, .func (.func g) #[] lb] w (RetB w (decide (x = y))) := by
  obtain ⟨A1, c1, rfl, hc1, hm1, hn1⟩ := Ty.rd_sl h1
  obtain ⟨A2, c2, rfl, hc2, hm2, hn2⟩ := Ty.rd_sl h2
  have HP := Lib.hid hp
  clear hp
  by_cases hl : x.length = y.length
  · have q1 : ((x.length : Int) != y.length) = false := by simp [hl]
    have HL := Lib.hid hl
    clear hl
    go_enter Try.func109, Try.ntmps109
    go_wp2
    go_loopw [17] (fun i wr => ∃ k : Nat, k ≤ x.length ∧ i = .int .i64 k ∧ x.take k = y.take k ∧ Below w.heap.size w wr) (fun i _ => x.length - (intOf i).toNat)
    case atStart => exact ⟨0, by omega, rfl, rfl, Below.refl _ _⟩
    case round =>
      obtain ⟨k, hk, rfl, htk, hb⟩ := hrel
      have HT := Lib.hid htk
      clear htk
      by_cases hlt : k < x.length
      · have hlt2 : k < y.length := by have := HL.out; omega
        obtain ⟨b, o, dsa, rfl, hla, hcella, hrda⟩ := Ty.rd_at (Ty.rd_below hb h1) hlt
        have hrda' := hrda
        obtain ⟨Aa0, ca0, Aa1, ca1, rfl, ag0, ag1, ag2⟩ := rd_PendingInterest hrda
        have e0 : wr.cell? ⟨b, o + k * 3, none⟩ = some (.slice Aa0 (List.length x[k].1) ca0) := by simpa [Ty.sz] using hcella 0 (by decide)
        have e1 : wr.cell? ⟨b, o + k * 3 + 1, none⟩ = some (.slice Aa1 (List.length x[k].2.1) ca1) := by simpa [Ty.sz] using hcella 1 (by decide)
        have e2 : wr.cell? ⟨b, o + k * 3 + 2, none⟩ = some (.int .i64 x[k].2.2) := by simpa [Ty.sz] using hcella 2 (by decide)
        clear hcella hla
        obtain ⟨b2, o2, dsb, rfl, hlb, hcellb, hrdb⟩ := Ty.rd_at (Ty.rd_below hb h2) hlt2
        have hrdb' := hrdb
        obtain ⟨Ab0, cb0, Ab1, cb1, rfl, bg0, bg1, bg2⟩ := rd_PendingInterest hrdb
        have f0 : wr.cell? ⟨b2, o2 + k * 3, none⟩ = some (.slice Ab0 (List.length y[k].1) cb0) := by simpa [Ty.sz] using hcellb 0 (by decide)
        have f1 : wr.cell? ⟨b2, o2 + k * 3 + 1, none⟩ = some (.slice Ab1 (List.length y[k].2.1) cb1) := by simpa [Ty.sz] using hcellb 1 (by decide)
        have f2 : wr.cell? ⟨b2, o2 + k * 3 + 2, none⟩ = some (.int .i64 y[k].2.2) := by simpa [Ty.sz] using hcellb 2 (by decide)
        clear hcellb hlb
        have hlb2 : b2 < wr.heap.size := World.block_lt_of_cell? wr _ f0
        have hcall := HP.out ((wr.alloc (.cells #[.slice Aa0 (List.length x[k].1) ca0, .slice Aa1 (List.length x[k].2.1) ca1, .int .i64 x[k].2.2] 124)).alloc (.cells #[.slice Ab0 (List.length y[k].1) cb0, .slice Ab1 (List.length y[k].2.1) cb1, .int .i64 y[k].2.2] 124)) _ x[k] _ y[k] (Ty.rd_below (by repeat' (first | (with_reducible exact Below.refl _ _) | (with_reducible assumption) | (with_reducible refine bel_set ?_ (by (try dsimp only); omega) _) | (with_reducible refine bel_alloc ?_ _) | (with_reducible refine bel_drewN ?_ _) | (with_reducible refine bel_drew ?_))) hrda') (Ty.rd_below (by repeat' (first | (with_reducible exact Below.refl _ _) | (with_reducible assumption) | (with_reducible refine bel_set ?_ (by (try dsimp only); omega) _) | (with_reducible refine bel_alloc ?_ _) | (with_reducible refine bel_drewN ?_ _) | (with_reducible refine bel_drew ?_))) hrdb') (bel_trans hb (by repeat' (first | (with_reducible exact Below.refl _ _) | (with_reducible assumption) | (with_reducible refine bel_set ?_ (by (try dsimp only); omega) _) | (with_reducible refine bel_alloc ?_ _) | (with_reducible refine bel_drewN ?_ _) | (with_reducible refine bel_drew ?_))))
        cases hq : decide (x[k] = y[k])
        · have HE : Hid (¬ x = y) := fun h => by subst h; simp at hq
          rw [hq] at hcall
          clear hq
          go_wp2_with (go_at_fn g; refine hcall.mono ?_; rintro e w' ⟨rfl, hb'⟩)
          go_ret
          exact ⟨ret_bool (by simp [HE.out]), bel_trans hb (bel_trans (by repeat' (first | (with_reducible exact Below.refl _ _) | (with_reducible assumption) | (with_reducible refine bel_set ?_ (by (try dsimp only); omega) _) | (with_reducible refine bel_alloc ?_ _) | (with_reducible refine bel_drewN ?_ _) | (with_reducible refine bel_drew ?_))) hb')⟩
        · have HE := Lib.hid (take_eq_succ hlt hlt2 HT.out (by simpa using hq))
          rw [hq] at hcall
          clear hq
          go_wp2_with (go_at_fn g; refine hcall.mono ?_; rintro e w' ⟨rfl, hb'⟩)
          go_roundw
          case rel => exact ⟨k + 1, by omega, by go_num, HE.out, bel_trans hb (bel_trans (by repeat' (first | (with_reducible exact Below.refl _ _) | (with_reducible assumption) | (with_reducible refine bel_set ?_ (by (try dsimp only); omega) _) | (with_reducible refine bel_alloc ?_ _) | (with_reducible refine bel_drewN ?_ _) | (with_reducible refine bel_drew ?_))) hb')⟩
          case measure => simp [intOf]; omega
      · have HE : Hid (x = y) := take_eq_all (k := k) (by omega) (by have := HL.out; omega) HT.out
        go_wp2
        go_ret
        exact ⟨ret_bool (by simp [HE.out]), hb⟩
  · have q1 : ((x.length : Int) != y.length) = true := by rw [bne_iff_ne]; omega
    have HE : Hid (¬ x = y) := fun h => hl (congrArg List.length h)
    go_enter Try.func109, Try.ntmps109
    go_wp2
    go_ret
    exact ⟨ret_bool (by simp [HE.out]), Below.refl _ _⟩
set_option maxHeartbeats 1000000 in
theorem C_impl_EqualPending (w : World) (v1 : Value) (x : List (Ty.D tPendingInterest)) (v2 : Value) (y : List (Ty.D tPendingInterest)) (h1 : (Ty.sl tPendingInterest).rd w [v1] x) (h2 : (Ty.sl tPendingInterest).rd w [v2] y) (s0 : Ty.bulk (.sl tPendingInterest) x ≤ 1048576) (s1 : Ty.bulk (.sl tPendingInterest) y ≤ 1048576) :
    Calls Try.prog 57 #[v1, v2] w (RetB w (f_EqualPending x y)) := by
  have HF := Lib.hid (show f_EqualPending x y = decide (x = y) from rfl)
  go_enter Try.func57, Try.ntmps57
  go_wp2_with fail
  refine (C_EqualFunc_PI _ _ _ x y 110 #[] (enters_of Try.func110 (by kernel_rfl) rfl) h1 h2 (fun W ds1 d1 ds2 d2 r1 r2 _ => by rw [Array.append_empty]; exact C_impl_EqualPending1 W ds1 d1 ds2 d2 r1 r2)).mono ?_
  rintro e w1 ⟨rfl, hb1⟩
  go_wp2
  go_ret
  exact ⟨ret_bool (by rw [HF.out]), hb1⟩
set_option maxRecDepth 100000 in
set_option maxHeartbeats 4000000 in
theorem C_spec_EqualPending (w : World) (v1 : Value) (x : List (Ty.D tPendingInterest)) (v2 : Value) (y : List (Ty.D tPendingInterest)) (h1 : (Ty.sl tPendingInterest).rd w [v1] x) (h2 : (Ty.sl tPendingInterest).rd w [v2] y) (s0 : Ty.bulk (.sl tPendingInterest) x ≤ 1048576) (s1 : Ty.bulk (.sl tPendingInterest) y ≤ 1048576) :
    Calls Try.prog 56 #[v1, v2] w (RetB w (f_EqualPending x y)) := by
  obtain ⟨A1, c1, rfl, hc1, hm1, hn1⟩ := Ty.rd_sl h1
  obtain ⟨A2, c2, rfl, hc2, hm2, hn2⟩ := Ty.rd_sl h2
  have HF := Lib.hid (show f_EqualPending x y = decide (x = y) from rfl)
  generalize f_EqualPending x y = F at HF ⊢
  by_cases hl : x.length = y.length
  rotate_left
  · have q1 : ((x.length : Int) != y.length) = true := by rw [bne_iff_ne]; omega
    have HE : Hid (¬ x = y) := fun h => hl (congrArg List.length h)
    go_enter Try.func56, Try.ntmps56
    go_wp2
    go_ret
    exact ⟨ret_bool (by rw [HF.out]; simp [HE.out]), Below.refl _ _⟩
  have q1 : ((x.length : Int) != y.length) = false := by simp [hl]
  have HL := Lib.hid hl
  clear hl
  go_enter Try.func56, Try.ntmps56
  go_wp2
  go_loopw [5] (fun i wr => ∃ k : Nat, k ≤ x.length ∧ i = .int .i64 k ∧ x.take k = y.take k ∧ Below w.heap.size w wr) (fun i _ => x.length - (intOf i).toNat)
  case atStart => exact ⟨0, by omega, rfl, rfl, Below.refl _ _⟩
  case round =>
    obtain ⟨k, hk, rfl, htk, hb⟩ := hrel
    have HT := Lib.hid htk
    clear htk
    obtain ⟨wo, hwo⟩ : ∃ wo, wo = wr := ⟨_, rfl⟩
    subst hwo
    by_cases hlt : k < x.length
    rotate_left
    · have HE : Hid (x = y) := take_eq_all (k := k) (by omega) (by have := HL.out; omega) HT.out
      go_wp2
      go_ret
      exact ⟨ret_bool (by rw [HF.out]; simp [HE.out]), hb⟩
    have hlt2 : k < y.length := by have := HL.out; omega
    obtain ⟨b, o, dsa, rfl, hla, hcella, hrda⟩ := Ty.rd_at (Ty.rd_below hb h1) hlt
    have hrda' := hrda
    obtain ⟨Aa0, ca0, Aa1, ca1, rfl, ag0, ag1, ag2⟩ := rd_PendingInterest hrda
    have e0 : wo.cell? ⟨b, o + k * 3, none⟩ = some (.slice Aa0 (List.length x[k].1) ca0) := by simpa [Ty.sz] using hcella 0 (by decide)
    have e1 : wo.cell? ⟨b, o + k * 3 + 1, none⟩ = some (.slice Aa1 (List.length x[k].2.1) ca1) := by simpa [Ty.sz] using hcella 1 (by decide)
    have e2 : wo.cell? ⟨b, o + k * 3 + 2, none⟩ = some (.int .i64 x[k].2.2) := by simpa [Ty.sz] using hcella 2 (by decide)
    clear hcella hla
    obtain ⟨b2, o2, dsb, rfl, hlb, hcellb, hrdb⟩ := Ty.rd_at (Ty.rd_below hb h2) hlt2
    have hrdb' := hrdb
    obtain ⟨Ab0, cb0, Ab1, cb1, rfl, bg0, bg1, bg2⟩ := rd_PendingInterest hrdb
    have f0 : wo.cell? ⟨b2, o2 + k * 3, none⟩ = some (.slice Ab0 (List.length y[k].1) cb0) := by simpa [Ty.sz] using hcellb 0 (by decide)
    have f1 : wo.cell? ⟨b2, o2 + k * 3 + 1, none⟩ = some (.slice Ab1 (List.length y[k].2.1) cb1) := by simpa [Ty.sz] using hcellb 1 (by decide)
    have f2 : wo.cell? ⟨b2, o2 + k * 3 + 2, none⟩ = some (.int .i64 y[k].2.2) := by simpa [Ty.sz] using hcellb 2 (by decide)
    clear hcellb hlb
    have hlb : b < wo.heap.size := World.block_lt_of_cell? wo _ e0
    have hlb2 : b2 < wo.heap.size := World.block_lt_of_cell? wo _ f0
    obtain ⟨_, _, _, _, _, m8⟩ := Ty.rd_sl ag1
    have HH : Hid (∀ W, Below wo.heap.size wo W → Below w.heap.size w W ∧ W.cell? ⟨b, o + k * 3, none⟩ = some (.slice Aa0 (List.length x[k].1) ca0) ∧ W.cell? ⟨b, o + k * 3 + 1, none⟩ = some (.slice Aa1 (List.length x[k].2.1) ca1) ∧ W.cell? ⟨b, o + k * 3 + 2, none⟩ = some (.int .i64 x[k].2.2) ∧ W.cell? ⟨b2, o2 + k * 3, none⟩ = some (.slice Ab0 (List.length y[k].1) cb0) ∧ W.cell? ⟨b2, o2 + k * 3 + 1, none⟩ = some (.slice Ab1 (List.length y[k].2.1) cb1) ∧ W.cell? ⟨b2, o2 + k * 3 + 2, none⟩ = some (.int .i64 y[k].2.2)) := fun W hW => ⟨bel_trans hb hW, (hW.cell hlb).trans e0, (hW.cell hlb).trans e1, (hW.cell hlb).trans e2, (hW.cell hlb2).trans f0, (hW.cell hlb2).trans f1, (hW.cell hlb2).trans f2⟩
    have hv0 : Below wo.heap.size wo wo := Below.refl _ _
    have i0 : (0 : Int) ≤ (k : Int) := by omega
    have i1 : (k : Int) < (x.length : Int) := by omega
    have i2 : (k : Int) < (y.length : Int) := by omega
    have HNE : Hid (¬ x[k] = y[k] → F = false) := fun hne => by rw [HF.out]; simp only [decide_eq_false_iff_not]; exact fun h => hne (by subst h; rfl)
    cases q3 : (x[k].2.2 == y[k].2.2)
    · have q3' : (x[k].2.2 != y[k].2.2) = true := by simp only [bne, q3]; rfl
      have HZ := Lib.hid (HNE.out (fun h => by rw [h] at q3; simp at q3))
      go_wp2_with fail
      refine wp_region_noPanic ?_
      refine wp_region_held_drew (S := (fun W => Below w.heap.size w W ∧ W.cell? ⟨b, o + k * 3, none⟩ = some (.slice Aa0 (List.length x[k].1) ca0) ∧ W.cell? ⟨b, o + k * 3 + 1, none⟩ = some (.slice Aa1 (List.length x[k].2.1) ca1) ∧ W.cell? ⟨b, o + k * 3 + 2, none⟩ = some (.int .i64 x[k].2.2) ∧ W.cell? ⟨b2, o2 + k * 3, none⟩ = some (.slice Ab0 (List.length y[k].1) cb0) ∧ W.cell? ⟨b2, o2 + k * 3 + 1, none⟩ = some (.slice Ab1 (List.length y[k].2.1) cb1) ∧ W.cell? ⟨b2, o2 + k * 3 + 2, none⟩ = some (.int .i64 y[k].2.2))) (by kernel_rfl) ?_ (fun hHeld => ?_)
      · exact HH.out _ (by (repeat' (first | (with_reducible exact Below.refl _ _) | (with_reducible assumption) | (with_reducible refine bel_set ?_ (by (try dsimp only); omega) _) | (with_reducible refine bel_alloc ?_ _) | (with_reducible refine bel_drewN ?_ _) | (with_reducible refine bel_drew ?_) | (with_reducible refine bel_trans ?_ (by assumption)))); done)
      refine tk 0 (opN rfl) (by kernel_rfl) (by rfl) (by (intro w hSw; (try dsimp only at hSw); go_simp; first | done | with_reducible rfl)) (by assumption) ?_
      try simp only [Act.put, List.setIfInBounds_toArray, List.set_cons_zero, List.set_cons_succ]
      refine tk 1 (opN rfl) (by kernel_rfl) (by rfl) (by (intro w hSw; (try dsimp only at hSw); go_simp; first | done | with_reducible rfl)) (by assumption) ?_
      try simp only [Act.put, List.setIfInBounds_toArray, List.set_cons_zero, List.set_cons_succ]
      refine tk 2 (opN rfl) (by kernel_rfl) (by rfl) (by (intro w hSw; (try dsimp only at hSw); go_simp; first | done | with_reducible rfl)) (by assumption) ?_
      try simp only [Act.put, List.setIfInBounds_toArray, List.set_cons_zero, List.set_cons_succ]
      refine tk 3 (opN rfl) (by kernel_rfl) (by rfl) (by (intro w hSw; (try dsimp only at hSw); go_simp; first | done | with_reducible rfl)) (by assumption) ?_
      try simp only [Act.put, List.setIfInBounds_toArray, List.set_cons_zero, List.set_cons_succ]
      refine tk 4 (opN rfl) (by kernel_rfl) (by rfl) (by (intro w hSw; (try dsimp only at hSw); go_simp; first | done | with_reducible rfl)) (by assumption) ?_
      try simp only [Act.put, List.setIfInBounds_toArray, List.set_cons_zero, List.set_cons_succ]
      refine tk 5 (opN rfl) (by kernel_rfl) (by rfl) (by (intro w hSw; (try dsimp only at hSw); go_simp; first | done | with_reducible rfl)) (by assumption) ?_
      try simp only [Act.put, List.setIfInBounds_toArray, List.set_cons_zero, List.set_cons_succ]
      refine tk 6 (opN rfl) (by kernel_rfl) (by rfl) (by (intro w hSw; (try dsimp only at hSw); go_simp; first | done | with_reducible rfl)) (by assumption) ?_
      try simp only [Act.put, List.setIfInBounds_toArray, List.set_cons_zero, List.set_cons_succ]
      refine tk 7 (opN rfl) (by kernel_rfl) (by rfl) (by (intro w hSw; (try dsimp only at hSw); go_simp; first | done | with_reducible rfl)) (by assumption) ?_
      try simp only [Act.put, List.setIfInBounds_toArray, List.set_cons_zero, List.set_cons_succ]
      refine tk 8 (opN rfl) (by kernel_rfl) (by rfl) (by (intro w hSw; (try dsimp only at hSw); go_simp; first | done | with_reducible rfl)) (by assumption) ?_
      try simp only [Act.put, List.setIfInBounds_toArray, List.set_cons_zero, List.set_cons_succ]
      refine tk 9 (opN rfl) (by kernel_rfl) (by rfl) (by (intro w hSw; (try dsimp only at hSw); go_simp; first | done | with_reducible rfl)) (by assumption) ?_
      try simp only [Act.put, List.setIfInBounds_toArray, List.set_cons_zero, List.set_cons_succ]
      refine tk 10 (opN rfl) (by kernel_rfl) (by rfl) (by (intro w hSw; (try dsimp only at hSw); go_simp; first | done | with_reducible rfl)) (by assumption) ?_
      try simp only [Act.put, List.setIfInBounds_toArray, List.set_cons_zero, List.set_cons_succ]
      refine tk 11 (opN rfl) (by kernel_rfl) (by rfl) (by (intro w hSw; (try dsimp only at hSw); go_simp; first | done | with_reducible rfl)) (by assumption) ?_
      try simp only [Act.put, List.setIfInBounds_toArray, List.set_cons_zero, List.set_cons_succ]
      refine sk 12 (opN rfl) (by kernel_rfl) (by rfl) (by assumption) ?_
      try simp only [Act.put, List.setIfInBounds_toArray, List.set_cons_zero, List.set_cons_succ]
      refine sk 13 (opN rfl) (by kernel_rfl) (by rfl) (by assumption) ?_
      try simp only [Act.put, List.setIfInBounds_toArray, List.set_cons_zero, List.set_cons_succ]
      refine sk 14 (opN rfl) (by kernel_rfl) (by rfl) (by assumption) ?_
      try simp only [Act.put, List.setIfInBounds_toArray, List.set_cons_zero, List.set_cons_succ]
      refine sk 15 (opN rfl) (by kernel_rfl) (by rfl) (by assumption) ?_
      try simp only [Act.put, List.setIfInBounds_toArray, List.set_cons_zero, List.set_cons_succ]
      refine sk 16 (opN rfl) (by kernel_rfl) (by rfl) (by assumption) ?_
      try simp only [Act.put, List.setIfInBounds_toArray, List.set_cons_zero, List.set_cons_succ]
      refine sk 17 (opN rfl) (by kernel_rfl) (by rfl) (by assumption) ?_
      try simp only [Act.put, List.setIfInBounds_toArray, List.set_cons_zero, List.set_cons_succ]
      refine sk 18 (opN rfl) (by kernel_rfl) (by rfl) (by assumption) ?_
      try simp only [Act.put, List.setIfInBounds_toArray, List.set_cons_zero, List.set_cons_succ]
      refine sk 19 (opN rfl) (by kernel_rfl) (by rfl) (by assumption) ?_
      try simp only [Act.put, List.setIfInBounds_toArray, List.set_cons_zero, List.set_cons_succ]
      refine sk 20 (opN rfl) (by kernel_rfl) (by rfl) (by assumption) ?_
      try simp only [Act.put, List.setIfInBounds_toArray, List.set_cons_zero, List.set_cons_succ]
      refine sk 21 (opN rfl) (by kernel_rfl) (by rfl) (by assumption) ?_
      try simp only [Act.put, List.setIfInBounds_toArray, List.set_cons_zero, List.set_cons_succ]
      refine sk 22 (opN rfl) (by kernel_rfl) (by rfl) (by assumption) ?_
      try simp only [Act.put, List.setIfInBounds_toArray, List.set_cons_zero, List.set_cons_succ]
      refine sk 23 (opN rfl) (by kernel_rfl) (by rfl) (by assumption) ?_
      try simp only [Act.put, List.setIfInBounds_toArray, List.set_cons_zero, List.set_cons_succ]
      refine tk 24 (opN rfl) (by kernel_rfl) (by rfl) (by (intro w hSw; (try dsimp only at hSw); go_simp; first | done | with_reducible rfl)) (by assumption) ?_
      try simp only [Act.put, List.setIfInBounds_toArray, List.set_cons_zero, List.set_cons_succ]
      refine tk 25 (opN rfl) (by kernel_rfl) (by rfl) (by (intro w hSw; (try dsimp only at hSw); go_simp; first | done | with_reducible rfl)) (by assumption) ?_
      try simp only [Act.put, List.setIfInBounds_toArray, List.set_cons_zero, List.set_cons_succ]
      refine sk 26 (opN rfl) (by kernel_rfl) (by rfl) (by assumption) ?_
      try simp only [Act.put, List.setIfInBounds_toArray, List.set_cons_zero, List.set_cons_succ]
      refine sk 27 (opN rfl) (by kernel_rfl) (by rfl) (by assumption) ?_
      try simp only [Act.put, List.setIfInBounds_toArray, List.set_cons_zero, List.set_cons_succ]
      refine sk 28 (opN rfl) (by kernel_rfl) (by rfl) (by assumption) ?_
      try simp only [Act.put, List.setIfInBounds_toArray, List.set_cons_zero, List.set_cons_succ]
      refine sk 29 (opN rfl) (by kernel_rfl) (by rfl) (by assumption) ?_
      try simp only [Act.put, List.setIfInBounds_toArray, List.set_cons_zero, List.set_cons_succ]
      refine sk 30 (opN rfl) (by kernel_rfl) (by rfl) (by assumption) ?_
      try simp only [Act.put, List.setIfInBounds_toArray, List.set_cons_zero, List.set_cons_succ]
      refine sk 31 (opN rfl) (by kernel_rfl) (by rfl) (by assumption) ?_
      try simp only [Act.put, List.setIfInBounds_toArray, List.set_cons_zero, List.set_cons_succ]
      refine sk 32 (opN rfl) (by kernel_rfl) (by rfl) (by assumption) ?_
      try simp only [Act.put, List.setIfInBounds_toArray, List.set_cons_zero, List.set_cons_succ]
      refine sk 33 (opN rfl) (by kernel_rfl) (by rfl) (by assumption) ?_
      try simp only [Act.put, List.setIfInBounds_toArray, List.set_cons_zero, List.set_cons_succ]
      refine sk 34 (opN rfl) (by kernel_rfl) (by rfl) (by assumption) ?_
      try simp only [Act.put, List.setIfInBounds_toArray, List.set_cons_zero, List.set_cons_succ]
      refine sk 35 (opN rfl) (by kernel_rfl) (by rfl) (by assumption) ?_
      try simp only [Act.put, List.setIfInBounds_toArray, List.set_cons_zero, List.set_cons_succ]
      refine sk 36 (opN rfl) (by kernel_rfl) (by rfl) (by assumption) ?_
      try simp only [Act.put, List.setIfInBounds_toArray, List.set_cons_zero, List.set_cons_succ]
      refine sk 37 (opN rfl) (by kernel_rfl) (by rfl) (by assumption) ?_
      try simp only [Act.put, List.setIfInBounds_toArray, List.set_cons_zero, List.set_cons_succ]
      refine sk 38 (opN rfl) (by kernel_rfl) (by rfl) (by assumption) ?_
      try simp only [Act.put, List.setIfInBounds_toArray, List.set_cons_zero, List.set_cons_succ]
      refine tk 39 (opN rfl) (by kernel_rfl) (by rfl) (by (intro w hSw; (try dsimp only at hSw); go_simp; first | done | with_reducible rfl)) (by assumption) ?_
      try simp only [Act.put, List.setIfInBounds_toArray, List.set_cons_zero, List.set_cons_succ]
      refine wpAnyH_done (by kernel_rfl) ?_ _
      refine NoPanic.normal ?_
      go_wp2
      go_ret
      exact ⟨ret_bool (by rw [HZ.out]), (by (repeat' (first | (with_reducible exact Below.refl _ _) | (with_reducible assumption) | (with_reducible refine bel_set ?_ (by (try dsimp only); omega) _) | (with_reducible refine bel_alloc ?_ _) | (with_reducible refine bel_drewN ?_ _) | (with_reducible refine bel_drew ?_) | (with_reducible refine bel_trans ?_ (by assumption)))); done)⟩
    have q3' : (x[k].2.2 != y[k].2.2) = false := by simp only [bne, q3]; rfl
    have HQ3 : Hid (x[k].2.2 = y[k].2.2) := by show _ = _; simpa using q3
    cases q0 : decide (x[k].1 = y[k].1)
    · have HZ := Lib.hid (HNE.out (fun h => by rw [h] at q0; simp at q0))
      go_wp2_with fail
      refine wp_region_noPanic ?_
      refine wp_region_held_drew (S := (fun W => Below w.heap.size w W ∧ W.cell? ⟨b, o + k * 3, none⟩ = some (.slice Aa0 (List.length x[k].1) ca0) ∧ W.cell? ⟨b, o + k * 3 + 1, none⟩ = some (.slice Aa1 (List.length x[k].2.1) ca1) ∧ W.cell? ⟨b, o + k * 3 + 2, none⟩ = some (.int .i64 x[k].2.2) ∧ W.cell? ⟨b2, o2 + k * 3, none⟩ = some (.slice Ab0 (List.length y[k].1) cb0) ∧ W.cell? ⟨b2, o2 + k * 3 + 1, none⟩ = some (.slice Ab1 (List.length y[k].2.1) cb1) ∧ W.cell? ⟨b2, o2 + k * 3 + 2, none⟩ = some (.int .i64 y[k].2.2))) (by kernel_rfl) ?_ (fun hHeld => ?_)
      · exact HH.out _ (by (repeat' (first | (with_reducible exact Below.refl _ _) | (with_reducible assumption) | (with_reducible refine bel_set ?_ (by (try dsimp only); omega) _) | (with_reducible refine bel_alloc ?_ _) | (with_reducible refine bel_drewN ?_ _) | (with_reducible refine bel_drew ?_) | (with_reducible refine bel_trans ?_ (by assumption)))); done)
      refine tk 0 (opN rfl) (by kernel_rfl) (by rfl) (by (intro w hSw; (try dsimp only at hSw); go_simp; first | done | with_reducible rfl)) (by assumption) ?_
      try simp only [Act.put, List.setIfInBounds_toArray, List.set_cons_zero, List.set_cons_succ]
      refine tk 1 (opN rfl) (by kernel_rfl) (by rfl) (by (intro w hSw; (try dsimp only at hSw); go_simp; first | done | with_reducible rfl)) (by assumption) ?_
      try simp only [Act.put, List.setIfInBounds_toArray, List.set_cons_zero, List.set_cons_succ]
      refine tk 2 (opN rfl) (by kernel_rfl) (by rfl) (by (intro w hSw; (try dsimp only at hSw); go_simp; first | done | with_reducible rfl)) (by assumption) ?_
      try simp only [Act.put, List.setIfInBounds_toArray, List.set_cons_zero, List.set_cons_succ]
      refine tk 3 (opN rfl) (by kernel_rfl) (by rfl) (by (intro w hSw; (try dsimp only at hSw); go_simp; first | done | with_reducible rfl)) (by assumption) ?_
      try simp only [Act.put, List.setIfInBounds_toArray, List.set_cons_zero, List.set_cons_succ]
      refine tk 4 (opN rfl) (by kernel_rfl) (by rfl) (by (intro w hSw; (try dsimp only at hSw); go_simp; first | done | with_reducible rfl)) (by assumption) ?_
      try simp only [Act.put, List.setIfInBounds_toArray, List.set_cons_zero, List.set_cons_succ]
      refine tk 5 (opN rfl) (by kernel_rfl) (by rfl) (by (intro w hSw; (try dsimp only at hSw); go_simp; first | done | with_reducible rfl)) (by assumption) ?_
      try simp only [Act.put, List.setIfInBounds_toArray, List.set_cons_zero, List.set_cons_succ]
      refine tk 6 (opN rfl) (by kernel_rfl) (by rfl) (by (intro w hSw; (try dsimp only at hSw); go_simp; first | done | with_reducible rfl)) (by assumption) ?_
      try simp only [Act.put, List.setIfInBounds_toArray, List.set_cons_zero, List.set_cons_succ]
      refine tk 7 (opN rfl) (by kernel_rfl) (by rfl) (by (intro w hSw; (try dsimp only at hSw); go_simp; first | done | with_reducible rfl)) (by assumption) ?_
      try simp only [Act.put, List.setIfInBounds_toArray, List.set_cons_zero, List.set_cons_succ]
      refine tk 8 (opN rfl) (by kernel_rfl) (by rfl) (by (intro w hSw; (try dsimp only at hSw); go_simp; first | done | with_reducible rfl)) (by assumption) ?_
      try simp only [Act.put, List.setIfInBounds_toArray, List.set_cons_zero, List.set_cons_succ]
      refine tk 9 (opN rfl) (by kernel_rfl) (by rfl) (by (intro w hSw; (try dsimp only at hSw); go_simp; first | done | with_reducible rfl)) (by assumption) ?_
      try simp only [Act.put, List.setIfInBounds_toArray, List.set_cons_zero, List.set_cons_succ]
      refine tk 10 (opN rfl) (by kernel_rfl) (by rfl) (by (intro w hSw; (try dsimp only at hSw); go_simp; first | done | with_reducible rfl)) (by assumption) ?_
      try simp only [Act.put, List.setIfInBounds_toArray, List.set_cons_zero, List.set_cons_succ]
      refine tk 11 (opN rfl) (by kernel_rfl) (by rfl) (by (intro w hSw; (try dsimp only at hSw); go_simp; first | done | with_reducible rfl)) (by assumption) ?_
      try simp only [Act.put, List.setIfInBounds_toArray, List.set_cons_zero, List.set_cons_succ]
      refine tk 12 (opN rfl) (by kernel_rfl) (by rfl) (by (intro w hSw; (try dsimp only at hSw); go_simp; first | done | with_reducible rfl)) (by assumption) ?_
      try simp only [Act.put, List.setIfInBounds_toArray, List.set_cons_zero, List.set_cons_succ]
      refine tk 13 (opN rfl) (by kernel_rfl) (by rfl) (by (intro w hSw; (try dsimp only at hSw); go_simp; first | done | with_reducible rfl)) (by assumption) ?_
      try simp only [Act.put, List.setIfInBounds_toArray, List.set_cons_zero, List.set_cons_succ]
      refine tk 14 (opN rfl) (by kernel_rfl) (by rfl) (by (intro w hSw; (try dsimp only at hSw); go_simp; first | done | with_reducible rfl)) (by assumption) ?_
      try simp only [Act.put, List.setIfInBounds_toArray, List.set_cons_zero, List.set_cons_succ]
      refine tk 15 (opN rfl) (by kernel_rfl) (by rfl) (by (intro w hSw; (try dsimp only at hSw); go_simp; first | done | with_reducible rfl)) (by assumption) ?_
      try simp only [Act.put, List.setIfInBounds_toArray, List.set_cons_zero, List.set_cons_succ]
      refine tk 16 (opN rfl) (by kernel_rfl) (by rfl) (by (intro w hSw; (try dsimp only at hSw); go_simp; first | done | with_reducible rfl)) (by assumption) ?_
      try simp only [Act.put, List.setIfInBounds_toArray, List.set_cons_zero, List.set_cons_succ]
      refine tk 17 (opN rfl) (by kernel_rfl) (by rfl) (by (intro w hSw; (try dsimp only at hSw); go_simp; first | done | with_reducible rfl)) (by assumption) ?_
      try simp only [Act.put, List.setIfInBounds_toArray, List.set_cons_zero, List.set_cons_succ]
      refine tk 18 (opN rfl) (by kernel_rfl) (by rfl) (by (intro w hSw; (try dsimp only at hSw); go_simp; first | done | with_reducible rfl)) (by assumption) ?_
      try simp only [Act.put, List.setIfInBounds_toArray, List.set_cons_zero, List.set_cons_succ]
      refine tk 19 (opN rfl) (by kernel_rfl) (by rfl) (by (intro w hSw; (try dsimp only at hSw); go_simp; first | done | with_reducible rfl)) (by assumption) ?_
      try simp only [Act.put, List.setIfInBounds_toArray, List.set_cons_zero, List.set_cons_succ]
      refine tk 20 (opN rfl) (by kernel_rfl) (by rfl) (by (intro w hSw; (try dsimp only at hSw); go_simp; first | done | with_reducible rfl)) (by assumption) ?_
      try simp only [Act.put, List.setIfInBounds_toArray, List.set_cons_zero, List.set_cons_succ]
      refine tk 21 (opN rfl) (by kernel_rfl) (by rfl) (by (intro w hSw; (try dsimp only at hSw); go_simp; first | done | with_reducible rfl)) (by assumption) ?_
      try simp only [Act.put, List.setIfInBounds_toArray, List.set_cons_zero, List.set_cons_succ]
      refine wpAnyH_ready (rs := [22]) (by kernel_rfl) (by simp) ?_
      refine AllReadyH.cons (opN rfl) (fun K hK => ?_) AllReadyH.nil
      go_simp
      go_at_call 108
      refine (C_spec_EqualNames _ _ _ _ _ (Ty.rd_below (by (repeat' (first | (with_reducible exact Below.refl _ _) | (with_reducible assumption) | (with_reducible refine bel_set ?_ (by (try dsimp only); omega) _) | (with_reducible refine bel_alloc ?_ _) | (with_reducible refine bel_drewN ?_ _) | (with_reducible refine bel_drew ?_) | (with_reducible refine bel_trans ?_ (by assumption)))); done) ag0) (Ty.rd_below (by (repeat' (first | (with_reducible exact Below.refl _ _) | (with_reducible assumption) | (with_reducible refine bel_set ?_ (by (try dsimp only); omega) _) | (with_reducible refine bel_alloc ?_ _) | (with_reducible refine bel_drewN ?_ _) | (with_reducible refine bel_drew ?_) | (with_reducible refine bel_trans ?_ (by assumption)))); done) bg0)).mono ?_
      rw [q0]
      rintro e w1 ⟨rfl, hb1⟩
      have hv1 : Below wo.heap.size wo w1 := (by (repeat' (first | (with_reducible exact Below.refl _ _) | (with_reducible assumption) | (with_reducible refine bel_set ?_ (by (try dsimp only); omega) _) | (with_reducible refine bel_alloc ?_ _) | (with_reducible refine bel_drewN ?_ _) | (with_reducible refine bel_drew ?_) | (with_reducible refine bel_trans ?_ (by assumption)))); done)
      refine hK.out _ _ ?_ (fun hHeld => ?_)
      · (try dsimp only)
        exact HH.out _ (by (repeat' (first | (with_reducible exact Below.refl _ _) | (with_reducible assumption) | (with_reducible refine bel_set ?_ (by (try dsimp only); omega) _) | (with_reducible refine bel_alloc ?_ _) | (with_reducible refine bel_drewN ?_ _) | (with_reducible refine bel_drew ?_) | (with_reducible refine bel_trans ?_ (by assumption)))); done)
      clear hK K
      try simp only [Act.put, List.setIfInBounds_toArray, List.set_cons_zero, List.set_cons_succ]
      refine tk 23 (opN rfl) (by kernel_rfl) (by rfl) (by (intro w hSw; (try dsimp only at hSw); go_simp; first | done | with_reducible rfl)) (by assumption) ?_
      try simp only [Act.put, List.setIfInBounds_toArray, List.set_cons_zero, List.set_cons_succ]
      refine tk 24 (opN rfl) (by kernel_rfl) (by rfl) (by (intro w hSw; (try dsimp only at hSw); go_simp; first | done | with_reducible rfl)) (by assumption) ?_
      try simp only [Act.put, List.setIfInBounds_toArray, List.set_cons_zero, List.set_cons_succ]
      refine tk 25 (opN rfl) (by kernel_rfl) (by rfl) (by (intro w hSw; (try dsimp only at hSw); go_simp; first | done | with_reducible rfl)) (by assumption) ?_
      try simp only [Act.put, List.setIfInBounds_toArray, List.set_cons_zero, List.set_cons_succ]
      refine sk 26 (opN rfl) (by kernel_rfl) (by rfl) (by assumption) ?_
      try simp only [Act.put, List.setIfInBounds_toArray, List.set_cons_zero, List.set_cons_succ]
      refine sk 27 (opN rfl) (by kernel_rfl) (by rfl) (by assumption) ?_
      try simp only [Act.put, List.setIfInBounds_toArray, List.set_cons_zero, List.set_cons_succ]
      refine sk 28 (opN rfl) (by kernel_rfl) (by rfl) (by assumption) ?_
      try simp only [Act.put, List.setIfInBounds_toArray, List.set_cons_zero, List.set_cons_succ]
      refine sk 29 (opN rfl) (by kernel_rfl) (by rfl) (by assumption) ?_
      try simp only [Act.put, List.setIfInBounds_toArray, List.set_cons_zero, List.set_cons_succ]
      refine sk 30 (opN rfl) (by kernel_rfl) (by rfl) (by assumption) ?_
      try simp only [Act.put, List.setIfInBounds_toArray, List.set_cons_zero, List.set_cons_succ]
      refine sk 31 (opN rfl) (by kernel_rfl) (by rfl) (by assumption) ?_
      try simp only [Act.put, List.setIfInBounds_toArray, List.set_cons_zero, List.set_cons_succ]
      refine sk 32 (opN rfl) (by kernel_rfl) (by rfl) (by assumption) ?_
      try simp only [Act.put, List.setIfInBounds_toArray, List.set_cons_zero, List.set_cons_succ]
      refine sk 33 (opN rfl) (by kernel_rfl) (by rfl) (by assumption) ?_
      try simp only [Act.put, List.setIfInBounds_toArray, List.set_cons_zero, List.set_cons_succ]
      refine sk 34 (opN rfl) (by kernel_rfl) (by rfl) (by assumption) ?_
      try simp only [Act.put, List.setIfInBounds_toArray, List.set_cons_zero, List.set_cons_succ]
      refine sk 35 (opN rfl) (by kernel_rfl) (by rfl) (by assumption) ?_
      try simp only [Act.put, List.setIfInBounds_toArray, List.set_cons_zero, List.set_cons_succ]
      refine sk 36 (opN rfl) (by kernel_rfl) (by rfl) (by assumption) ?_
      try simp only [Act.put, List.setIfInBounds_toArray, List.set_cons_zero, List.set_cons_succ]
      refine sk 37 (opN rfl) (by kernel_rfl) (by rfl) (by assumption) ?_
      try simp only [Act.put, List.setIfInBounds_toArray, List.set_cons_zero, List.set_cons_succ]
      refine sk 38 (opN rfl) (by kernel_rfl) (by rfl) (by assumption) ?_
      try simp only [Act.put, List.setIfInBounds_toArray, List.set_cons_zero, List.set_cons_succ]
      refine tk 39 (opN rfl) (by kernel_rfl) (by rfl) (by (intro w hSw; (try dsimp only at hSw); go_simp; first | done | with_reducible rfl)) (by assumption) ?_
      try simp only [Act.put, List.setIfInBounds_toArray, List.set_cons_zero, List.set_cons_succ]
      refine wpAnyH_done (by kernel_rfl) ?_ _
      refine NoPanic.normal ?_
      go_wp2
      go_ret
      exact ⟨ret_bool (by rw [HZ.out]), bel_trans hb hv1⟩
    have HQ0 : Hid (x[k].1 = y[k].1) := by show _ = _; simpa using q0
    by_cases hlr : List.length x[k].2.1 = List.length y[k].2.1
    rotate_left
    · have q4 : ((List.length x[k].2.1 : Int) != List.length y[k].2.1) = true := by rw [bne_iff_ne]; omega
      have HZ := Lib.hid (HNE.out (fun h => hlr (by rw [h])))
      clear hlr
      go_wp2_with fail
      refine wp_region_noPanic ?_
      refine wp_region_held_drew (S := (fun W => Below w.heap.size w W ∧ W.cell? ⟨b, o + k * 3, none⟩ = some (.slice Aa0 (List.length x[k].1) ca0) ∧ W.cell? ⟨b, o + k * 3 + 1, none⟩ = some (.slice Aa1 (List.length x[k].2.1) ca1) ∧ W.cell? ⟨b, o + k * 3 + 2, none⟩ = some (.int .i64 x[k].2.2) ∧ W.cell? ⟨b2, o2 + k * 3, none⟩ = some (.slice Ab0 (List.length y[k].1) cb0) ∧ W.cell? ⟨b2, o2 + k * 3 + 1, none⟩ = some (.slice Ab1 (List.length y[k].2.1) cb1) ∧ W.cell? ⟨b2, o2 + k * 3 + 2, none⟩ = some (.int .i64 y[k].2.2))) (by kernel_rfl) ?_ (fun hHeld => ?_)
      · exact HH.out _ (by (repeat' (first | (with_reducible exact Below.refl _ _) | (with_reducible assumption) | (with_reducible refine bel_set ?_ (by (try dsimp only); omega) _) | (with_reducible refine bel_alloc ?_ _) | (with_reducible refine bel_drewN ?_ _) | (with_reducible refine bel_drew ?_) | (with_reducible refine bel_trans ?_ (by assumption)))); done)
      refine tk 0 (opN rfl) (by kernel_rfl) (by rfl) (by (intro w hSw; (try dsimp only at hSw); go_simp; first | done | with_reducible rfl)) (by assumption) ?_
      try simp only [Act.put, List.setIfInBounds_toArray, List.set_cons_zero, List.set_cons_succ]
      refine tk 1 (opN rfl) (by kernel_rfl) (by rfl) (by (intro w hSw; (try dsimp only at hSw); go_simp; first | done | with_reducible rfl)) (by assumption) ?_
      try simp only [Act.put, List.setIfInBounds_toArray, List.set_cons_zero, List.set_cons_succ]
      refine tk 2 (opN rfl) (by kernel_rfl) (by rfl) (by (intro w hSw; (try dsimp only at hSw); go_simp; first | done | with_reducible rfl)) (by assumption) ?_
      try simp only [Act.put, List.setIfInBounds_toArray, List.set_cons_zero, List.set_cons_succ]
      refine tk 3 (opN rfl) (by kernel_rfl) (by rfl) (by (intro w hSw; (try dsimp only at hSw); go_simp; first | done | with_reducible rfl)) (by assumption) ?_
      try simp only [Act.put, List.setIfInBounds_toArray, List.set_cons_zero, List.set_cons_succ]
      refine tk 4 (opN rfl) (by kernel_rfl) (by rfl) (by (intro w hSw; (try dsimp only at hSw); go_simp; first | done | with_reducible rfl)) (by assumption) ?_
      try simp only [Act.put, List.setIfInBounds_toArray, List.set_cons_zero, List.set_cons_succ]
      refine tk 5 (opN rfl) (by kernel_rfl) (by rfl) (by (intro w hSw; (try dsimp only at hSw); go_simp; first | done | with_reducible rfl)) (by assumption) ?_
      try simp only [Act.put, List.setIfInBounds_toArray, List.set_cons_zero, List.set_cons_succ]
      refine tk 6 (opN rfl) (by kernel_rfl) (by rfl) (by (intro w hSw; (try dsimp only at hSw); go_simp; first | done | with_reducible rfl)) (by assumption) ?_
      try simp only [Act.put, List.setIfInBounds_toArray, List.set_cons_zero, List.set_cons_succ]
      refine tk 7 (opN rfl) (by kernel_rfl) (by rfl) (by (intro w hSw; (try dsimp only at hSw); go_simp; first | done | with_reducible rfl)) (by assumption) ?_
      try simp only [Act.put, List.setIfInBounds_toArray, List.set_cons_zero, List.set_cons_succ]
      refine tk 8 (opN rfl) (by kernel_rfl) (by rfl) (by (intro w hSw; (try dsimp only at hSw); go_simp; first | done | with_reducible rfl)) (by assumption) ?_
      try simp only [Act.put, List.setIfInBounds_toArray, List.set_cons_zero, List.set_cons_succ]
      refine tk 9 (opN rfl) (by kernel_rfl) (by rfl) (by (intro w hSw; (try dsimp only at hSw); go_simp; first | done | with_reducible rfl)) (by assumption) ?_
      try simp only [Act.put, List.setIfInBounds_toArray, List.set_cons_zero, List.set_cons_succ]
      refine tk 10 (opN rfl) (by kernel_rfl) (by rfl) (by (intro w hSw; (try dsimp only at hSw); go_simp; first | done | with_reducible rfl)) (by assumption) ?_
      try simp only [Act.put, List.setIfInBounds_toArray, List.set_cons_zero, List.set_cons_succ]
      refine tk 11 (opN rfl) (by kernel_rfl) (by rfl) (by (intro w hSw; (try dsimp only at hSw); go_simp; first | done | with_reducible rfl)) (by assumption) ?_
      try simp only [Act.put, List.setIfInBounds_toArray, List.set_cons_zero, List.set_cons_succ]
      refine tk 12 (opN rfl) (by kernel_rfl) (by rfl) (by (intro w hSw; (try dsimp only at hSw); go_simp; first | done | with_reducible rfl)) (by assumption) ?_
      try simp only [Act.put, List.setIfInBounds_toArray, List.set_cons_zero, List.set_cons_succ]
      refine tk 13 (opN rfl) (by kernel_rfl) (by rfl) (by (intro w hSw; (try dsimp only at hSw); go_simp; first | done | with_reducible rfl)) (by assumption) ?_
      try simp only [Act.put, List.setIfInBounds_toArray, List.set_cons_zero, List.set_cons_succ]
      refine tk 14 (opN rfl) (by kernel_rfl) (by rfl) (by (intro w hSw; (try dsimp only at hSw); go_simp; first | done | with_reducible rfl)) (by assumption) ?_
      try simp only [Act.put, List.setIfInBounds_toArray, List.set_cons_zero, List.set_cons_succ]
      refine tk 15 (opN rfl) (by kernel_rfl) (by rfl) (by (intro w hSw; (try dsimp only at hSw); go_simp; first | done | with_reducible rfl)) (by assumption) ?_
      try simp only [Act.put, List.setIfInBounds_toArray, List.set_cons_zero, List.set_cons_succ]
      refine tk 16 (opN rfl) (by kernel_rfl) (by rfl) (by (intro w hSw; (try dsimp only at hSw); go_simp; first | done | with_reducible rfl)) (by assumption) ?_
      try simp only [Act.put, List.setIfInBounds_toArray, List.set_cons_zero, List.set_cons_succ]
      refine tk 17 (opN rfl) (by kernel_rfl) (by rfl) (by (intro w hSw; (try dsimp only at hSw); go_simp; first | done | with_reducible rfl)) (by assumption) ?_
      try simp only [Act.put, List.setIfInBounds_toArray, List.set_cons_zero, List.set_cons_succ]
      refine tk 18 (opN rfl) (by kernel_rfl) (by rfl) (by (intro w hSw; (try dsimp only at hSw); go_simp; first | done | with_reducible rfl)) (by assumption) ?_
      try simp only [Act.put, List.setIfInBounds_toArray, List.set_cons_zero, List.set_cons_succ]
      refine tk 19 (opN rfl) (by kernel_rfl) (by rfl) (by (intro w hSw; (try dsimp only at hSw); go_simp; first | done | with_reducible rfl)) (by assumption) ?_
      try simp only [Act.put, List.setIfInBounds_toArray, List.set_cons_zero, List.set_cons_succ]
      refine tk 20 (opN rfl) (by kernel_rfl) (by rfl) (by (intro w hSw; (try dsimp only at hSw); go_simp; first | done | with_reducible rfl)) (by assumption) ?_
      try simp only [Act.put, List.setIfInBounds_toArray, List.set_cons_zero, List.set_cons_succ]
      refine tk 21 (opN rfl) (by kernel_rfl) (by rfl) (by (intro w hSw; (try dsimp only at hSw); go_simp; first | done | with_reducible rfl)) (by assumption) ?_
      try simp only [Act.put, List.setIfInBounds_toArray, List.set_cons_zero, List.set_cons_succ]
      refine wpAnyH_ready (rs := [22]) (by kernel_rfl) (by simp) ?_
      refine AllReadyH.cons (opN rfl) (fun K hK => ?_) AllReadyH.nil
      go_simp
      go_at_call 108
      refine (C_spec_EqualNames _ _ _ _ _ (Ty.rd_below (by (repeat' (first | (with_reducible exact Below.refl _ _) | (with_reducible assumption) | (with_reducible refine bel_set ?_ (by (try dsimp only); omega) _) | (with_reducible refine bel_alloc ?_ _) | (with_reducible refine bel_drewN ?_ _) | (with_reducible refine bel_drew ?_) | (with_reducible refine bel_trans ?_ (by assumption)))); done) ag0) (Ty.rd_below (by (repeat' (first | (with_reducible exact Below.refl _ _) | (with_reducible assumption) | (with_reducible refine bel_set ?_ (by (try dsimp only); omega) _) | (with_reducible refine bel_alloc ?_ _) | (with_reducible refine bel_drewN ?_ _) | (with_reducible refine bel_drew ?_) | (with_reducible refine bel_trans ?_ (by assumption)))); done) bg0)).mono ?_
      rw [q0]
      rintro e w1 ⟨rfl, hb1⟩
      have hv1 : Below wo.heap.size wo w1 := (by (repeat' (first | (with_reducible exact Below.refl _ _) | (with_reducible assumption) | (with_reducible refine bel_set ?_ (by (try dsimp only); omega) _) | (with_reducible refine bel_alloc ?_ _) | (with_reducible refine bel_drewN ?_ _) | (with_reducible refine bel_drew ?_) | (with_reducible refine bel_trans ?_ (by assumption)))); done)
      refine hK.out _ _ ?_ (fun hHeld => ?_)
      · (try dsimp only)
        exact HH.out _ (by (repeat' (first | (with_reducible exact Below.refl _ _) | (with_reducible assumption) | (with_reducible refine bel_set ?_ (by (try dsimp only); omega) _) | (with_reducible refine bel_alloc ?_ _) | (with_reducible refine bel_drewN ?_ _) | (with_reducible refine bel_drew ?_) | (with_reducible refine bel_trans ?_ (by assumption)))); done)
      clear hK K
      try simp only [Act.put, List.setIfInBounds_toArray, List.set_cons_zero, List.set_cons_succ]
      refine tk 23 (opN rfl) (by kernel_rfl) (by rfl) (by (intro w hSw; (try dsimp only at hSw); go_simp; first | done | with_reducible rfl)) (by assumption) ?_
      try simp only [Act.put, List.setIfInBounds_toArray, List.set_cons_zero, List.set_cons_succ]
      refine tk 24 (opN rfl) (by kernel_rfl) (by rfl) (by (intro w hSw; (try dsimp only at hSw); go_simp; first | done | with_reducible rfl)) (by assumption) ?_
      try simp only [Act.put, List.setIfInBounds_toArray, List.set_cons_zero, List.set_cons_succ]
      refine tk 25 (opN rfl) (by kernel_rfl) (by rfl) (by (intro w hSw; (try dsimp only at hSw); go_simp; first | done | with_reducible rfl)) (by assumption) ?_
      try simp only [Act.put, List.setIfInBounds_toArray, List.set_cons_zero, List.set_cons_succ]
      refine tk 26 (opN rfl) (by kernel_rfl) (by rfl) (by (intro w hSw; (try dsimp only at hSw); go_simp; first | done | with_reducible rfl)) (by assumption) ?_
      try simp only [Act.put, List.setIfInBounds_toArray, List.set_cons_zero, List.set_cons_succ]
      refine tk 27 (opN rfl) (by kernel_rfl) (by rfl) (by (intro w hSw; (try dsimp only at hSw); go_simp; first | done | with_reducible rfl)) (by assumption) ?_
      try simp only [Act.put, List.setIfInBounds_toArray, List.set_cons_zero, List.set_cons_succ]
      refine tk 28 (opN rfl) (by kernel_rfl) (by rfl) (by (intro w hSw; (try dsimp only at hSw); go_simp; first | done | with_reducible rfl)) (by assumption) ?_
      try simp only [Act.put, List.setIfInBounds_toArray, List.set_cons_zero, List.set_cons_succ]
      refine tk 29 (opN rfl) (by kernel_rfl) (by rfl) (by (intro w hSw; (try dsimp only at hSw); go_simp; first | done | with_reducible rfl)) (by assumption) ?_
      try simp only [Act.put, List.setIfInBounds_toArray, List.set_cons_zero, List.set_cons_succ]
      refine tk 30 (opN rfl) (by kernel_rfl) (by rfl) (by (intro w hSw; (try dsimp only at hSw); go_simp; first | done | with_reducible rfl)) (by assumption) ?_
      try simp only [Act.put, List.setIfInBounds_toArray, List.set_cons_zero, List.set_cons_succ]
      refine tk 31 (opN rfl) (by kernel_rfl) (by rfl) (by (intro w hSw; (try dsimp only at hSw); go_simp; first | done | with_reducible rfl)) (by assumption) ?_
      try simp only [Act.put, List.setIfInBounds_toArray, List.set_cons_zero, List.set_cons_succ]
      refine tk 32 (opN rfl) (by kernel_rfl) (by rfl) (by (intro w hSw; (try dsimp only at hSw); go_simp; first | done | with_reducible rfl)) (by assumption) ?_
      try simp only [Act.put, List.setIfInBounds_toArray, List.set_cons_zero, List.set_cons_succ]
      refine tk 33 (opN rfl) (by kernel_rfl) (by rfl) (by (intro w hSw; (try dsimp only at hSw); go_simp; first | done | with_reducible rfl)) (by assumption) ?_
      try simp only [Act.put, List.setIfInBounds_toArray, List.set_cons_zero, List.set_cons_succ]
      refine tk 34 (opN rfl) (by kernel_rfl) (by rfl) (by (intro w hSw; (try dsimp only at hSw); go_simp; first | done | with_reducible rfl)) (by assumption) ?_
      try simp only [Act.put, List.setIfInBounds_toArray, List.set_cons_zero, List.set_cons_succ]
      refine tk 35 (opN rfl) (by kernel_rfl) (by rfl) (by (intro w hSw; (try dsimp only at hSw); go_simp; first | done | with_reducible rfl)) (by assumption) ?_
      try simp only [Act.put, List.setIfInBounds_toArray, List.set_cons_zero, List.set_cons_succ]
      refine tk 36 (opN rfl) (by kernel_rfl) (by rfl) (by (intro w hSw; (try dsimp only at hSw); go_simp; first | done | with_reducible rfl)) (by assumption) ?_
      try simp only [Act.put, List.setIfInBounds_toArray, List.set_cons_zero, List.set_cons_succ]
      refine tk 37 (opN rfl) (by kernel_rfl) (by rfl) (by (intro w hSw; (try dsimp only at hSw); go_simp; first | done | with_reducible rfl)) (by assumption) ?_
      try simp only [Act.put, List.setIfInBounds_toArray, List.set_cons_zero, List.set_cons_succ]
      refine tk 38 (opN rfl) (by kernel_rfl) (by rfl) (by (intro w hSw; (try dsimp only at hSw); go_simp; first | done | with_reducible rfl)) (by assumption) ?_
      try simp only [Act.put, List.setIfInBounds_toArray, List.set_cons_zero, List.set_cons_succ]
      refine tk 39 (opN rfl) (by kernel_rfl) (by rfl) (by (intro w hSw; (try dsimp only at hSw); go_simp; first | done | with_reducible rfl)) (by assumption) ?_
      try simp only [Act.put, List.setIfInBounds_toArray, List.set_cons_zero, List.set_cons_succ]
      refine wpAnyH_done (by kernel_rfl) ?_ _
      refine NoPanic.normal ?_
      go_wp2
      go_ret
      exact ⟨ret_bool (by rw [HZ.out]), bel_trans hb hv1⟩
    have q4 : ((List.length x[k].2.1 : Int) != List.length y[k].2.1) = false := by simp [hlr]
    have HLR := Lib.hid hlr
    clear hlr
    go_wp2_with fail
    refine wp_region_noPanic ?_
    refine wp_region_held_drew (S := (fun W => Below w.heap.size w W ∧ W.cell? ⟨b, o + k * 3, none⟩ = some (.slice Aa0 (List.length x[k].1) ca0) ∧ W.cell? ⟨b, o + k * 3 + 1, none⟩ = some (.slice Aa1 (List.length x[k].2.1) ca1) ∧ W.cell? ⟨b, o + k * 3 + 2, none⟩ = some (.int .i64 x[k].2.2) ∧ W.cell? ⟨b2, o2 + k * 3, none⟩ = some (.slice Ab0 (List.length y[k].1) cb0) ∧ W.cell? ⟨b2, o2 + k * 3 + 1, none⟩ = some (.slice Ab1 (List.length y[k].2.1) cb1) ∧ W.cell? ⟨b2, o2 + k * 3 + 2, none⟩ = some (.int .i64 y[k].2.2))) (by kernel_rfl) ?_ (fun hHeld => ?_)
    · exact HH.out _ (by (repeat' (first | (with_reducible exact Below.refl _ _) | (with_reducible assumption) | (with_reducible refine bel_set ?_ (by (try dsimp only); omega) _) | (with_reducible refine bel_alloc ?_ _) | (with_reducible refine bel_drewN ?_ _) | (with_reducible refine bel_drew ?_) | (with_reducible refine bel_trans ?_ (by assumption)))); done)
    refine tk 0 (opN rfl) (by kernel_rfl) (by rfl) (by (intro w hSw; (try dsimp only at hSw); go_simp; first | done | with_reducible rfl)) (by assumption) ?_
    try simp only [Act.put, List.setIfInBounds_toArray, List.set_cons_zero, List.set_cons_succ]
    refine tk 1 (opN rfl) (by kernel_rfl) (by rfl) (by (intro w hSw; (try dsimp only at hSw); go_simp; first | done | with_reducible rfl)) (by assumption) ?_
    try simp only [Act.put, List.setIfInBounds_toArray, List.set_cons_zero, List.set_cons_succ]
    refine tk 2 (opN rfl) (by kernel_rfl) (by rfl) (by (intro w hSw; (try dsimp only at hSw); go_simp; first | done | with_reducible rfl)) (by assumption) ?_
    try simp only [Act.put, List.setIfInBounds_toArray, List.set_cons_zero, List.set_cons_succ]
    refine tk 3 (opN rfl) (by kernel_rfl) (by rfl) (by (intro w hSw; (try dsimp only at hSw); go_simp; first | done | with_reducible rfl)) (by assumption) ?_
    try simp only [Act.put, List.setIfInBounds_toArray, List.set_cons_zero, List.set_cons_succ]
    refine tk 4 (opN rfl) (by kernel_rfl) (by rfl) (by (intro w hSw; (try dsimp only at hSw); go_simp; first | done | with_reducible rfl)) (by assumption) ?_
    try simp only [Act.put, List.setIfInBounds_toArray, List.set_cons_zero, List.set_cons_succ]
    refine tk 5 (opN rfl) (by kernel_rfl) (by rfl) (by (intro w hSw; (try dsimp only at hSw); go_simp; first | done | with_reducible rfl)) (by assumption) ?_
    try simp only [Act.put, List.setIfInBounds_toArray, List.set_cons_zero, List.set_cons_succ]
    refine tk 6 (opN rfl) (by kernel_rfl) (by rfl) (by (intro w hSw; (try dsimp only at hSw); go_simp; first | done | with_reducible rfl)) (by assumption) ?_
    try simp only [Act.put, List.setIfInBounds_toArray, List.set_cons_zero, List.set_cons_succ]
    refine tk 7 (opN rfl) (by kernel_rfl) (by rfl) (by (intro w hSw; (try dsimp only at hSw); go_simp; first | done | with_reducible rfl)) (by assumption) ?_
    try simp only [Act.put, List.setIfInBounds_toArray, List.set_cons_zero, List.set_cons_succ]
    refine tk 8 (opN rfl) (by kernel_rfl) (by rfl) (by (intro w hSw; (try dsimp only at hSw); go_simp; first | done | with_reducible rfl)) (by assumption) ?_
    try simp only [Act.put, List.setIfInBounds_toArray, List.set_cons_zero, List.set_cons_succ]
    refine tk 9 (opN rfl) (by kernel_rfl) (by rfl) (by (intro w hSw; (try dsimp only at hSw); go_simp; first | done | with_reducible rfl)) (by assumption) ?_
    try simp only [Act.put, List.setIfInBounds_toArray, List.set_cons_zero, List.set_cons_succ]
    refine tk 10 (opN rfl) (by kernel_rfl) (by rfl) (by (intro w hSw; (try dsimp only at hSw); go_simp; first | done | with_reducible rfl)) (by assumption) ?_
    try simp only [Act.put, List.setIfInBounds_toArray, List.set_cons_zero, List.set_cons_succ]
    refine tk 11 (opN rfl) (by kernel_rfl) (by rfl) (by (intro w hSw; (try dsimp only at hSw); go_simp; first | done | with_reducible rfl)) (by assumption) ?_
    try simp only [Act.put, List.setIfInBounds_toArray, List.set_cons_zero, List.set_cons_succ]
    refine tk 12 (opN rfl) (by kernel_rfl) (by rfl) (by (intro w hSw; (try dsimp only at hSw); go_simp; first | done | with_reducible rfl)) (by assumption) ?_
    try simp only [Act.put, List.setIfInBounds_toArray, List.set_cons_zero, List.set_cons_succ]
    refine tk 13 (opN rfl) (by kernel_rfl) (by rfl) (by (intro w hSw; (try dsimp only at hSw); go_simp; first | done | with_reducible rfl)) (by assumption) ?_
    try simp only [Act.put, List.setIfInBounds_toArray, List.set_cons_zero, List.set_cons_succ]
    refine tk 14 (opN rfl) (by kernel_rfl) (by rfl) (by (intro w hSw; (try dsimp only at hSw); go_simp; first | done | with_reducible rfl)) (by assumption) ?_
    try simp only [Act.put, List.setIfInBounds_toArray, List.set_cons_zero, List.set_cons_succ]
    refine tk 15 (opN rfl) (by kernel_rfl) (by rfl) (by (intro w hSw; (try dsimp only at hSw); go_simp; first | done | with_reducible rfl)) (by assumption) ?_
    try simp only [Act.put, List.setIfInBounds_toArray, List.set_cons_zero, List.set_cons_succ]
    refine tk 16 (opN rfl) (by kernel_rfl) (by rfl) (by (intro w hSw; (try dsimp only at hSw); go_simp; first | done | with_reducible rfl)) (by assumption) ?_
    try simp only [Act.put, List.setIfInBounds_toArray, List.set_cons_zero, List.set_cons_succ]
    refine tk 17 (opN rfl) (by kernel_rfl) (by rfl) (by (intro w hSw; (try dsimp only at hSw); go_simp; first | done | with_reducible rfl)) (by assumption) ?_
    try simp only [Act.put, List.setIfInBounds_toArray, List.set_cons_zero, List.set_cons_succ]
    refine tk 18 (opN rfl) (by kernel_rfl) (by rfl) (by (intro w hSw; (try dsimp only at hSw); go_simp; first | done | with_reducible rfl)) (by assumption) ?_
    try simp only [Act.put, List.setIfInBounds_toArray, List.set_cons_zero, List.set_cons_succ]
    refine tk 19 (opN rfl) (by kernel_rfl) (by rfl) (by (intro w hSw; (try dsimp only at hSw); go_simp; first | done | with_reducible rfl)) (by assumption) ?_
    try simp only [Act.put, List.setIfInBounds_toArray, List.set_cons_zero, List.set_cons_succ]
    refine tk 20 (opN rfl) (by kernel_rfl) (by rfl) (by (intro w hSw; (try dsimp only at hSw); go_simp; first | done | with_reducible rfl)) (by assumption) ?_
    try simp only [Act.put, List.setIfInBounds_toArray, List.set_cons_zero, List.set_cons_succ]
    refine tk 21 (opN rfl) (by kernel_rfl) (by rfl) (by (intro w hSw; (try dsimp only at hSw); go_simp; first | done | with_reducible rfl)) (by assumption) ?_
    try simp only [Act.put, List.setIfInBounds_toArray, List.set_cons_zero, List.set_cons_succ]
    refine wpAnyH_ready (rs := [22]) (by kernel_rfl) (by simp) ?_
    refine AllReadyH.cons (opN rfl) (fun K hK => ?_) AllReadyH.nil
    go_simp
    go_at_call 108
    refine (C_spec_EqualNames _ _ _ _ _ (Ty.rd_below (by (repeat' (first | (with_reducible exact Below.refl _ _) | (with_reducible assumption) | (with_reducible refine bel_set ?_ (by (try dsimp only); omega) _) | (with_reducible refine bel_alloc ?_ _) | (with_reducible refine bel_drewN ?_ _) | (with_reducible refine bel_drew ?_) | (with_reducible refine bel_trans ?_ (by assumption)))); done) ag0) (Ty.rd_below (by (repeat' (first | (with_reducible exact Below.refl _ _) | (with_reducible assumption) | (with_reducible refine bel_set ?_ (by (try dsimp only); omega) _) | (with_reducible refine bel_alloc ?_ _) | (with_reducible refine bel_drewN ?_ _) | (with_reducible refine bel_drew ?_) | (with_reducible refine bel_trans ?_ (by assumption)))); done) bg0)).mono ?_
    rw [q0]
    rintro e w1 ⟨rfl, hb1⟩
    have hv1 : Below wo.heap.size wo w1 := (by (repeat' (first | (with_reducible exact Below.refl _ _) | (with_reducible assumption) | (with_reducible refine bel_set ?_ (by (try dsimp only); omega) _) | (with_reducible refine bel_alloc ?_ _) | (with_reducible refine bel_drewN ?_ _) | (with_reducible refine bel_drew ?_) | (with_reducible refine bel_trans ?_ (by assumption)))); done)
    refine hK.out _ _ ?_ (fun hHeld => ?_)
    · (try dsimp only)
      exact HH.out _ (by (repeat' (first | (with_reducible exact Below.refl _ _) | (with_reducible assumption) | (with_reducible refine bel_set ?_ (by (try dsimp only); omega) _) | (with_reducible refine bel_alloc ?_ _) | (with_reducible refine bel_drewN ?_ _) | (with_reducible refine bel_drew ?_) | (with_reducible refine bel_trans ?_ (by assumption)))); done)
    clear hK K
    try simp only [Act.put, List.setIfInBounds_toArray, List.set_cons_zero, List.set_cons_succ]
    refine tk 23 (opN rfl) (by kernel_rfl) (by rfl) (by (intro w hSw; (try dsimp only at hSw); go_simp; first | done | with_reducible rfl)) (by assumption) ?_
    try simp only [Act.put, List.setIfInBounds_toArray, List.set_cons_zero, List.set_cons_succ]
    refine tk 24 (opN rfl) (by kernel_rfl) (by rfl) (by (intro w hSw; (try dsimp only at hSw); go_simp; first | done | with_reducible rfl)) (by assumption) ?_
    try simp only [Act.put, List.setIfInBounds_toArray, List.set_cons_zero, List.set_cons_succ]
    refine tk 25 (opN rfl) (by kernel_rfl) (by rfl) (by (intro w hSw; (try dsimp only at hSw); go_simp; first | done | with_reducible rfl)) (by assumption) ?_
    try simp only [Act.put, List.setIfInBounds_toArray, List.set_cons_zero, List.set_cons_succ]
    refine tk 26 (opN rfl) (by kernel_rfl) (by rfl) (by (intro w hSw; (try dsimp only at hSw); go_simp; first | done | with_reducible rfl)) (by assumption) ?_
    try simp only [Act.put, List.setIfInBounds_toArray, List.set_cons_zero, List.set_cons_succ]
    refine tk 27 (opN rfl) (by kernel_rfl) (by rfl) (by (intro w hSw; (try dsimp only at hSw); go_simp; first | done | with_reducible rfl)) (by assumption) ?_
    try simp only [Act.put, List.setIfInBounds_toArray, List.set_cons_zero, List.set_cons_succ]
    refine tk 28 (opN rfl) (by kernel_rfl) (by rfl) (by (intro w hSw; (try dsimp only at hSw); go_simp; first | done | with_reducible rfl)) (by assumption) ?_
    try simp only [Act.put, List.setIfInBounds_toArray, List.set_cons_zero, List.set_cons_succ]
    refine tk 29 (opN rfl) (by kernel_rfl) (by rfl) (by (intro w hSw; (try dsimp only at hSw); go_simp; first | done | with_reducible rfl)) (by assumption) ?_
    try simp only [Act.put, List.setIfInBounds_toArray, List.set_cons_zero, List.set_cons_succ]
    refine tk 30 (opN rfl) (by kernel_rfl) (by rfl) (by (intro w hSw; (try dsimp only at hSw); go_simp; first | done | with_reducible rfl)) (by assumption) ?_
    try simp only [Act.put, List.setIfInBounds_toArray, List.set_cons_zero, List.set_cons_succ]
    refine tk 31 (opN rfl) (by kernel_rfl) (by rfl) (by (intro w hSw; (try dsimp only at hSw); go_simp; first | done | with_reducible rfl)) (by assumption) ?_
    try simp only [Act.put, List.setIfInBounds_toArray, List.set_cons_zero, List.set_cons_succ]
    refine tk 32 (opN rfl) (by kernel_rfl) (by rfl) (by (intro w hSw; (try dsimp only at hSw); go_simp; first | done | with_reducible rfl)) (by assumption) ?_
    try simp only [Act.put, List.setIfInBounds_toArray, List.set_cons_zero, List.set_cons_succ]
    refine tk 33 (opN rfl) (by kernel_rfl) (by rfl) (by (intro w hSw; (try dsimp only at hSw); go_simp; first | done | with_reducible rfl)) (by assumption) ?_
    try simp only [Act.put, List.setIfInBounds_toArray, List.set_cons_zero, List.set_cons_succ]
    refine tk 34 (opN rfl) (by kernel_rfl) (by rfl) (by (intro w hSw; (try dsimp only at hSw); go_simp; first | done | with_reducible rfl)) (by assumption) ?_
    try simp only [Act.put, List.setIfInBounds_toArray, List.set_cons_zero, List.set_cons_succ]
    refine tk 35 (opN rfl) (by kernel_rfl) (by rfl) (by (intro w hSw; (try dsimp only at hSw); go_simp; first | done | with_reducible rfl)) (by assumption) ?_
    try simp only [Act.put, List.setIfInBounds_toArray, List.set_cons_zero, List.set_cons_succ]
    refine tk 36 (opN rfl) (by kernel_rfl) (by rfl) (by (intro w hSw; (try dsimp only at hSw); go_simp; first | done | with_reducible rfl)) (by assumption) ?_
    try simp only [Act.put, List.setIfInBounds_toArray, List.set_cons_zero, List.set_cons_succ]
    refine tk 37 (opN rfl) (by kernel_rfl) (by rfl) (by (intro w hSw; (try dsimp only at hSw); go_simp; first | done | with_reducible rfl)) (by assumption) ?_
    try simp only [Act.put, List.setIfInBounds_toArray, List.set_cons_zero, List.set_cons_succ]
    refine tk 38 (opN rfl) (by kernel_rfl) (by rfl) (by (intro w hSw; (try dsimp only at hSw); go_simp; first | done | with_reducible rfl)) (by assumption) ?_
    try simp only [Act.put, List.setIfInBounds_toArray, List.set_cons_zero, List.set_cons_succ]
    refine tk 39 (opN rfl) (by kernel_rfl) (by rfl) (by (intro w hSw; (try dsimp only at hSw); go_simp; first | done | with_reducible rfl)) (by assumption) ?_
    try simp only [Act.put, List.setIfInBounds_toArray, List.set_cons_zero, List.set_cons_succ]
    refine wpAnyH_done (by kernel_rfl) ?_ _
    refine NoPanic.normal ?_
    clear q0 q3 q3' q4
    go_wp2
    go_loopw [6] (fun i wr => ∃ j : Nat, j ≤ List.length x[k].2.1 ∧ i = .int .i64 j ∧ List.take j x[k].2.1 = List.take j y[k].2.1 ∧ Below wo.heap.size wo wr) (fun i _ => List.length x[k].2.1 - (intOf i).toNat)
    case atStart => exact ⟨0, by omega, by first | rfl | simp, rfl, hv1⟩
    case round =>
      obtain ⟨j, hj, rfl, hta, hbi⟩ := hrel
      have HTA := Lib.hid hta
      clear hta
      have hbw : Below w.heap.size w wr := bel_trans hb hbi
      clear e0 e1 e2 f0 f1 f2
      obtain ⟨_, e0, e1, e2, f0, f1, f2⟩ := HH.out _ hbi
      by_cases hjl : j < List.length x[k].2.1
      · have hjl2 : j < List.length y[k].2.1 := by have := HLR.out; omega
        obtain ⟨b3, o3, ds3, rfl, hl3, hcell3, hrd3⟩ := Ty.rd_at (Ty.rd_below hbi ag1) hjl
        obtain ⟨rfl, _, _, _⟩ := rd_Requester hrd3
        have g0 : wr.cell? ⟨b3, o3 + j * 3, none⟩ = some (.int .i64 (x[k].2.1)[j].1) := by simpa [Ty.sz] using hcell3 0 (by decide)
        have g1 : wr.cell? ⟨b3, o3 + j * 3 + 1, none⟩ = some (.int .i64 (x[k].2.1)[j].2.1) := by simpa [Ty.sz] using hcell3 1 (by decide)
        have g2 : wr.cell? ⟨b3, o3 + j * 3 + 2, none⟩ = some (.int .i64 (x[k].2.1)[j].2.2) := by simpa [Ty.sz] using hcell3 2 (by decide)
        clear hcell3 hl3
        obtain ⟨b4, o4, ds4, rfl, hl4, hcell4, hrd4⟩ := Ty.rd_at (Ty.rd_below hbi bg1) hjl2
        obtain ⟨rfl, _, _, _⟩ := rd_Requester hrd4
        have k0 : wr.cell? ⟨b4, o4 + j * 3, none⟩ = some (.int .i64 (y[k].2.1)[j].1) := by simpa [Ty.sz] using hcell4 0 (by decide)
        have k1 : wr.cell? ⟨b4, o4 + j * 3 + 1, none⟩ = some (.int .i64 (y[k].2.1)[j].2.1) := by simpa [Ty.sz] using hcell4 1 (by decide)
        have k2 : wr.cell? ⟨b4, o4 + j * 3 + 2, none⟩ = some (.int .i64 (y[k].2.1)[j].2.2) := by simpa [Ty.sz] using hcell4 2 (by decide)
        clear hcell4 hl4
        have i3 : (0 : Int) ≤ (j : Int) := by omega
        have i4 : (j : Int) < (List.length x[k].2.1 : Int) := by omega
        have i5 : (j : Int) < (List.length y[k].2.1 : Int) := by omega
        by_cases he : (x[k].2.1)[j] = (y[k].2.1)[j]
        · have q2 : ((x[k].2.1)[j].1 == (y[k].2.1)[j].1) = true := by simp [he]
          have q3 : ((x[k].2.1)[j].2.1 == (y[k].2.1)[j].2.1) = true := by simp [he]
          have q4 : ((x[k].2.1)[j].2.2 == (y[k].2.1)[j].2.2) = true := by simp [he]
          have HE := Lib.hid (take_eq_succ hjl hjl2 HTA.out he)
          clear he
          go_wp2
          go_quiet (fail)
          go_wp2
          go_roundw
          case rel => exact ⟨j + 1, by omega, by go_num, HE.out, (by (repeat' (first | (with_reducible exact Below.refl _ _) | (with_reducible assumption) | (with_reducible refine bel_set ?_ (by (try dsimp only); omega) _) | (with_reducible refine bel_alloc ?_ _) | (with_reducible refine bel_drewN ?_ _) | (with_reducible refine bel_drew ?_) | (with_reducible refine bel_trans ?_ (by assumption)))); done)⟩
          case measure => simp [intOf]; omega
        · have HZ := Lib.hid (HNE.out (fun h => he (by simp only [h])))
          rcases (show ((x[k].2.1)[j].1 == (y[k].2.1)[j].1) = false ∨ (((x[k].2.1)[j].1 == (y[k].2.1)[j].1) = true ∧ ((x[k].2.1)[j].2.1 == (y[k].2.1)[j].2.1) = false) ∨ (((x[k].2.1)[j].1 == (y[k].2.1)[j].1) = true ∧ ((x[k].2.1)[j].2.1 == (y[k].2.1)[j].2.1) = true ∧ ((x[k].2.1)[j].2.2 == (y[k].2.1)[j].2.2) = false) from by
            cases h1 : ((x[k].2.1)[j].1 == (y[k].2.1)[j].1)
            · left; rfl
            · cases h2 : ((x[k].2.1)[j].2.1 == (y[k].2.1)[j].2.1)
              · right; left; exact ⟨rfl, rfl⟩
              · cases h3 : ((x[k].2.1)[j].2.2 == (y[k].2.1)[j].2.2)
                · right; right; exact ⟨rfl, rfl, rfl⟩
                · exact absurd (req_eq (by simpa using h1) (by simpa using h2) (by simpa using h3)) he) with q2 | ⟨q2, q3⟩ | ⟨q2, q3, q4⟩
          all_goals
            clear he
            go_wp2
            go_quiet (fail)
            go_wp2
            go_ret
            exact ⟨ret_bool (by rw [HZ.out]), (by (repeat' (first | (with_reducible exact Below.refl _ _) | (with_reducible assumption) | (with_reducible refine bel_set ?_ (by (try dsimp only); omega) _) | (with_reducible refine bel_alloc ?_ _) | (with_reducible refine bel_drewN ?_ _) | (with_reducible refine bel_drew ?_) | (with_reducible refine bel_trans ?_ (by assumption)))); done)⟩
      · have HE : Hid (x.take (k + 1) = y.take (k + 1)) := take_eq_succ hlt hlt2 HT.out (Prod.ext HQ0.out (Prod.ext (take_eq_all (k := j) (by omega) (by have := HLR.out; omega) HTA.out) HQ3.out))
        go_wp2
        go_roundw
        case rel => exact ⟨k + 1, by omega, by go_num, HE.out, hbw⟩
        case measure => simp [intOf]; omega
end Go.Proofs.Ytamodpeeocmneaa
