/- Which keys a signature matches. Printed by gen17.py. -/
import Derived.Test.YtamodpeeocmneaaVer
import Derived.StillTailTactics
namespace Go.Proofs.Ytamodpeeocmneaa
open Go.RowKit
set_option linter.unusedVariables false
set_option linter.unusedSimpArgs false

def mkP (l : List (Ty.D tKey)) (x : tData.D) (i : Nat) : Bool := match l[i]? with | some k => f_VerifyData k.2 x | none => false
def mkIdx (l : List (Ty.D tKey)) (x : tData.D) (k : Nat) : List Int := ((List.range k).filter (mkP l x)).map (fun (i : Nat) => (i : Int))
def f_MatchingKeys (l : List (Ty.D tKey)) (x : tData.D) : List Int := mkIdx l x l.length
theorem mkIdx_len (l : List (Ty.D tKey)) (x : tData.D) (k : Nat) : (mkIdx l x k).length ≤ k := by
  unfold mkIdx
  rw [List.length_map]
  have := List.length_filter_le (mkP l x) (List.range k)
  rw [List.length_range] at this; exact this
theorem mkIdx_yes {l : List (Ty.D tKey)} {x : tData.D} {k : Nat} (h : k < l.length) (hq : f_VerifyData l[k].2 x = true) : mkIdx l x (k + 1) = mkIdx l x k ++ [(k : Int)] := by
  unfold mkIdx
  rw [List.range_succ, List.filter_append, List.map_append]
  have : mkP l x k = true := by unfold mkP; rw [List.getElem?_eq_getElem h]; exact hq
  simp [List.filter_cons, this]
theorem mkIdx_no {l : List (Ty.D tKey)} {x : tData.D} {k : Nat} (h : k < l.length) (hq : f_VerifyData l[k].2 x = false) : mkIdx l x (k + 1) = mkIdx l x k := by
  unfold mkIdx
  rw [List.range_succ, List.filter_append, List.map_append]
  have : mkP l x k = false := by unfold mkP; rw [List.getElem?_eq_getElem h]; exact hq
  simp [List.filter_cons, this]
theorem N_MatchingKeys {l : List (Ty.D tKey)} {x : tData.D} (s0 : Ty.bulk (.sl tKey) l ≤ 1048576) (s1 : Ty.bulk tData x ≤ 1048576) : Ty.cnt (.sl .int) (f_MatchingKeys l x) ≤ 100000000000 := by
  refine cnt_bd (t := .sl .int) (B := 3000000) ?_ (by decide)
  have h1 := mkIdx_len l x l.length
  have h2 := Ty.bulk_len s0
  rw [Ty.bulk_flat (fun _ => rfl)]
  exact Nat.le_trans h1 (by omega)
set_option maxRecDepth 100000 in
set_option maxHeartbeats 4000000 in
theorem C_impl_MatchingKeys (w : World) (v : Value) (l : List (Ty.D tKey)) (cs : List Value) (x : tData.D) (h1 : (Ty.sl tKey).rd w [v] l) (h : tData.rd w cs x) (s0 : Ty.bulk (.sl tKey) l ≤ 1048576) (s1 : Ty.bulk tData x ≤ 1048576) :
    Calls Try.prog 28 #[v, .agg cs.toArray] w (RetSl w .int (f_MatchingKeys l x)) := by
  have h' := h
  obtain ⟨A, c, rfl, hc, hm, hn⟩ := Ty.rd_sl h1
  obtain ⟨A0, c0, A1, c1, A2, c2, rfl, g0, g1, g2, b3, b4⟩ := rd_Data h
  have hll := Ty.bulk_len s0
  have kb0 : (w.alloc (.cells #[.slice A0 (List.length x.1) c0, .slice A1 (List.length x.2.1) c1, .slice A2 (List.length x.2.2.1) c2, .int .i64 x.2.2.2.1, .int .i64 x.2.2.2.2] 31)).cell? ⟨w.heap.size, 0, none⟩ = some (.slice A0 (List.length x.1) c0) := cell_new w _ _ 0 rfl
  have kb1 : (w.alloc (.cells #[.slice A0 (List.length x.1) c0, .slice A1 (List.length x.2.1) c1, .slice A2 (List.length x.2.2.1) c2, .int .i64 x.2.2.2.1, .int .i64 x.2.2.2.2] 31)).cell? ⟨w.heap.size, 1, none⟩ = some (.slice A1 (List.length x.2.1) c1) := cell_new w _ _ 1 rfl
  have kb2 : (w.alloc (.cells #[.slice A0 (List.length x.1) c0, .slice A1 (List.length x.2.1) c1, .slice A2 (List.length x.2.2.1) c2, .int .i64 x.2.2.2.1, .int .i64 x.2.2.2.2] 31)).cell? ⟨w.heap.size, 2, none⟩ = some (.slice A2 (List.length x.2.2.1) c2) := cell_new w _ _ 2 rfl
  have kb3 : (w.alloc (.cells #[.slice A0 (List.length x.1) c0, .slice A1 (List.length x.2.1) c1, .slice A2 (List.length x.2.2.1) c2, .int .i64 x.2.2.2.1, .int .i64 x.2.2.2.2] 31)).cell? ⟨w.heap.size, 3, none⟩ = some (.int .i64 x.2.2.2.1) := cell_new w _ _ 3 rfl
  have kb4 : (w.alloc (.cells #[.slice A0 (List.length x.1) c0, .slice A1 (List.length x.2.1) c1, .slice A2 (List.length x.2.2.1) c2, .int .i64 x.2.2.2.1, .int .i64 x.2.2.2.2] 31)).cell? ⟨w.heap.size, 4, none⟩ = some (.int .i64 x.2.2.2.2) := cell_new w _ _ 4 rfl
  have hvb : Below w.heap.size w (w.alloc (.cells #[.slice A0 (List.length x.1) c0, .slice A1 (List.length x.2.1) c1, .slice A2 (List.length x.2.2.1) c2, .int .i64 x.2.2.2.1, .int .i64 x.2.2.2.2] 31)) := (by repeat' (first | (with_reducible exact Below.refl _ _) | (with_reducible assumption) | (with_reducible refine bel_set ?_ (by (try dsimp only); omega) _) | (with_reducible refine bel_alloc ?_ _) | (with_reducible refine bel_drewN ?_ _) | (with_reducible refine bel_drew ?_)))
  have zb : w.heap.size < (w.alloc (.cells #[.slice A0 (List.length x.1) c0, .slice A1 (List.length x.2.1) c1, .slice A2 (List.length x.2.2.1) c2, .int .i64 x.2.2.2.1, .int .i64 x.2.2.2.2] 31)).heap.size := by rw [World.size_alloc]; omega
  have zb0 := Lib.hid (show (w.alloc (.cells #[.slice A0 (List.length x.1) c0, .slice A1 (List.length x.2.1) c1, .slice A2 (List.length x.2.2.1) c2, .int .i64 x.2.2.2.1, .int .i64 x.2.2.2.2] 31)).heap.size = w.heap.size + 1 from by rw [World.size_alloc])
  go_enter Try.func28, Try.ntmps28
  go_wp2
  generalize (w.alloc (.cells #[.slice A0 (List.length x.1) c0, .slice A1 (List.length x.2.1) c1, .slice A2 (List.length x.2.2.1) c2, .int .i64 x.2.2.2.1, .int .i64 x.2.2.2.2] 31)) = WX at kb0 kb1 kb2 kb3 kb4 hvb zb zb0 ⊢
  have HC : Hid (∀ W, Below WX.heap.size WX W → W.cell? ⟨w.heap.size, 0, none⟩ = some (.slice A0 (List.length x.1) c0) ∧ W.cell? ⟨w.heap.size, 1, none⟩ = some (.slice A1 (List.length x.2.1) c1) ∧ W.cell? ⟨w.heap.size, 2, none⟩ = some (.slice A2 (List.length x.2.2.1) c2) ∧ W.cell? ⟨w.heap.size, 3, none⟩ = some (.int .i64 x.2.2.2.1) ∧ W.cell? ⟨w.heap.size, 4, none⟩ = some (.int .i64 x.2.2.2.2)) := fun W hW => ⟨(hW.cell (p := ⟨w.heap.size, 0, none⟩) zb).trans kb0, (hW.cell (p := ⟨w.heap.size, 1, none⟩) zb).trans kb1, (hW.cell (p := ⟨w.heap.size, 2, none⟩) zb).trans kb2, (hW.cell (p := ⟨w.heap.size, 3, none⟩) zb).trans kb3, (hW.cell (p := ⟨w.heap.size, 4, none⟩) zb).trans kb4⟩
  clear kb0 kb1 kb2 kb3 kb4
  have HL0 : Hid (Row flatI (WX.alloc (.cells #[] 3)) WX.heap.size 3 (.slice (some ⟨w.heap.size + 1, 0, none⟩) 0 0) []) := by unfold Hid; rw [← zb0.out]; exact Row.lit0 flatI WX 3 (Nat.le_refl _)
  go_loopw [5, 11] (fun out i wr => ∃ k : Nat, k ≤ l.length ∧ i = .int .i64 k ∧ Row flatI wr WX.heap.size 3 out (mkIdx l x k) ∧ Below WX.heap.size WX wr) (fun _ i _ => l.length - (intOf i).toNat)
  case atStart => exact ⟨0, by omega, rfl, HL0.out, (by repeat' (first | (with_reducible exact Below.refl _ _) | (with_reducible assumption) | (with_reducible refine bel_set ?_ (by (try dsimp only); omega) _) | (with_reducible refine bel_alloc ?_ _) | (with_reducible refine bel_drewN ?_ _) | (with_reducible refine bel_drew ?_)))⟩
  case round =>
    obtain ⟨k, hk, rfl, hr, hb⟩ := hrel
    have HR := Lib.hid hr
    clear hr
    obtain ⟨j0, j1, j2, j3, j4⟩ := HC.out _ hb
    have hw : Below w.heap.size w wr := bel_trans hvb hb
    have hz0 : w.heap.size < wr.heap.size := by have := hb.size; omega
    have HLen := Lib.hid (mkIdx_len l x k)
    by_cases hlt : k < l.length
    · obtain ⟨b, o, ds, rfl, hl, hcell, hrd⟩ := Ty.rd_at (Ty.rd_below hw h1) hlt
      obtain ⟨Aa0, ca0, rfl, sag0, sag1⟩ := rd_Key hrd
      have e0 : wr.cell? ⟨b, o + k * 2, none⟩ = some (.slice Aa0 (List.length l[k].1) ca0) := by simpa [Ty.sz] using hcell 0 (by decide)
      have e1 : wr.cell? ⟨b, o + k * 2 + 1, none⟩ = some (.int .i64 l[k].2) := by simpa [Ty.sz] using hcell 1 (by decide)
      clear hcell hl
      have hlb : b < wr.heap.size := World.block_lt_of_cell? wr _ e0
      go_wp2_with fail
      refine (C_impl_VerifyData _ _ _ x (Ty.rd_below (bel_trans hw (by repeat' (first | (with_reducible exact Below.refl _ _) | (with_reducible assumption) | (with_reducible refine bel_set ?_ (by (try dsimp only); omega) _) | (with_reducible refine bel_alloc ?_ _) | (with_reducible refine bel_drewN ?_ _) | (with_reducible refine bel_drew ?_)))) h') sag1 s1).mono ?_
      rintro e w1 ⟨rfl, hb1⟩
      have hv1 : Below wr.heap.size wr w1 := bel_trans (by repeat' (first | (with_reducible exact Below.refl _ _) | (with_reducible assumption) | (with_reducible refine bel_set ?_ (by (try dsimp only); omega) _) | (with_reducible refine bel_alloc ?_ _) | (with_reducible refine bel_drewN ?_ _) | (with_reducible refine bel_drew ?_))) hb1
      have hb1' : Below WX.heap.size WX w1 := bel_trans hb hv1
      have HR1 := Lib.hid (HR.out.below hv1)
      cases q0 : f_VerifyData l[k].2 x
      · have HQ := Lib.hid (mkIdx_no hlt q0)
        go_wp2
        go_roundw
        case rel => exact ⟨k + 1, by omega, by go_num, by rw [HQ.out]; exact HR1.out, hb1'⟩
        case measure => simp [intOf]; omega
      · have HQ := Lib.hid (mkIdx_yes hlt q0)
        have HX := Lib.hid (Row.lit1 flatI w1 3 (k : Int) (okI (by omega) (by omega)) (Nat.le_refl _))
        go_wp2_with (at_builtin; go_loud (refine wpList_append_row rfl _ _ 44 rfl flatI WX.heap.size 3 infoI rfl Try.underlying44 _ _ (mkIdx l x k) [(k : Int)] rfl rfl (HR1.out.below (by repeat' (first | (with_reducible exact Below.refl _ _) | (with_reducible assumption) | (with_reducible refine bel_set ?_ (by (try dsimp only); omega) _) | (with_reducible refine bel_alloc ?_ _) | (with_reducible refine bel_drewN ?_ _) | (with_reducible refine bel_drew ?_)))) (HX.out.rd (by (try simp only [World.size_alloc, World.size_setCell, size_drewN, World.size_drew]); omega)) ?_ ?_ ?_ ?_))
        case refine_1 => have := HLen.out; simp only [List.length_cons, List.length_nil]; omega
        case refine_2 => have := HLen.out; simp only [List.length_cons, List.length_nil]; unfold maxLen; omega
        case refine_3 => have := hb1'.size; simp only [World.size_alloc]; omega
        intro v' w' hr' hg'
        have hb' : Below WX.heap.size WX w' := bel_grown (bel_alloc hb1' _) (by have := hb1'.size; simp only [World.size_alloc]; omega) hg' (fun g hg => (HR1.out.block g hg).1)
        have HR' := Lib.hid hr'
        clear hr' hg'
        go_wp2
        go_roundw
        case rel => exact ⟨k + 1, by omega, by go_num, by rw [HQ.out]; exact HR'.out, hb'⟩
        case measure => simp [intOf]; omega
    · have HE : Hid (f_MatchingKeys l x = mkIdx l x k) := by unfold Hid f_MatchingKeys; rw [show k = l.length from by omega]
      obtain ⟨A9, c9, fp9, rfl, how9, hfr9⟩ := HR.out.own hb.size
      go_wp2
      go_ret
      rw [HE.out]
      exact ⟨A9, c9, fp9, rfl, how9, hfr9.mono (by omega) (Nat.le_refl _), hw⟩
set_option maxRecDepth 100000 in
set_option maxHeartbeats 4000000 in
theorem C_spec_MatchingKeys (w : World) (v : Value) (l : List (Ty.D tKey)) (cs : List Value) (x : tData.D) (h1 : (Ty.sl tKey).rd w [v] l) (h : tData.rd w cs x) (s0 : Ty.bulk (.sl tKey) l ≤ 1048576) (s1 : Ty.bulk tData x ≤ 1048576) :
    Calls Try.prog 27 #[v, .agg cs.toArray] w (RetSl w .int (f_MatchingKeys l x)) := by
  have h' := h
  obtain ⟨A, c, rfl, hc, hm, hn⟩ := Ty.rd_sl h1
  obtain ⟨A0, c0, A1, c1, A2, c2, rfl, g0, g1, g2, b3, b4⟩ := rd_Data h
  have hll := Ty.bulk_len s0
  have kb0 : (w.alloc (.cells #[.slice A0 (List.length x.1) c0, .slice A1 (List.length x.2.1) c1, .slice A2 (List.length x.2.2.1) c2, .int .i64 x.2.2.2.1, .int .i64 x.2.2.2.2] 31)).cell? ⟨w.heap.size, 0, none⟩ = some (.slice A0 (List.length x.1) c0) := cell_new w _ _ 0 rfl
  have kb1 : (w.alloc (.cells #[.slice A0 (List.length x.1) c0, .slice A1 (List.length x.2.1) c1, .slice A2 (List.length x.2.2.1) c2, .int .i64 x.2.2.2.1, .int .i64 x.2.2.2.2] 31)).cell? ⟨w.heap.size, 1, none⟩ = some (.slice A1 (List.length x.2.1) c1) := cell_new w _ _ 1 rfl
  have kb2 : (w.alloc (.cells #[.slice A0 (List.length x.1) c0, .slice A1 (List.length x.2.1) c1, .slice A2 (List.length x.2.2.1) c2, .int .i64 x.2.2.2.1, .int .i64 x.2.2.2.2] 31)).cell? ⟨w.heap.size, 2, none⟩ = some (.slice A2 (List.length x.2.2.1) c2) := cell_new w _ _ 2 rfl
  have kb3 : (w.alloc (.cells #[.slice A0 (List.length x.1) c0, .slice A1 (List.length x.2.1) c1, .slice A2 (List.length x.2.2.1) c2, .int .i64 x.2.2.2.1, .int .i64 x.2.2.2.2] 31)).cell? ⟨w.heap.size, 3, none⟩ = some (.int .i64 x.2.2.2.1) := cell_new w _ _ 3 rfl
  have kb4 : (w.alloc (.cells #[.slice A0 (List.length x.1) c0, .slice A1 (List.length x.2.1) c1, .slice A2 (List.length x.2.2.1) c2, .int .i64 x.2.2.2.1, .int .i64 x.2.2.2.2] 31)).cell? ⟨w.heap.size, 4, none⟩ = some (.int .i64 x.2.2.2.2) := cell_new w _ _ 4 rfl
  have hvb : Below w.heap.size w (w.alloc (.cells #[.slice A0 (List.length x.1) c0, .slice A1 (List.length x.2.1) c1, .slice A2 (List.length x.2.2.1) c2, .int .i64 x.2.2.2.1, .int .i64 x.2.2.2.2] 31)) := (by repeat' (first | (with_reducible exact Below.refl _ _) | (with_reducible assumption) | (with_reducible refine bel_set ?_ (by (try dsimp only); omega) _) | (with_reducible refine bel_alloc ?_ _) | (with_reducible refine bel_drewN ?_ _) | (with_reducible refine bel_drew ?_)))
  have zb : w.heap.size < (w.alloc (.cells #[.slice A0 (List.length x.1) c0, .slice A1 (List.length x.2.1) c1, .slice A2 (List.length x.2.2.1) c2, .int .i64 x.2.2.2.1, .int .i64 x.2.2.2.2] 31)).heap.size := by rw [World.size_alloc]; omega
  have zb0 := Lib.hid (show (w.alloc (.cells #[.slice A0 (List.length x.1) c0, .slice A1 (List.length x.2.1) c1, .slice A2 (List.length x.2.2.1) c2, .int .i64 x.2.2.2.1, .int .i64 x.2.2.2.2] 31)).heap.size = w.heap.size + 1 from by rw [World.size_alloc])
  go_enter Try.func27, Try.ntmps27
  go_wp2
  generalize (w.alloc (.cells #[.slice A0 (List.length x.1) c0, .slice A1 (List.length x.2.1) c1, .slice A2 (List.length x.2.2.1) c2, .int .i64 x.2.2.2.1, .int .i64 x.2.2.2.2] 31)) = WX at kb0 kb1 kb2 kb3 kb4 hvb zb zb0 ⊢
  have HC : Hid (∀ W, Below WX.heap.size WX W → W.cell? ⟨w.heap.size, 0, none⟩ = some (.slice A0 (List.length x.1) c0) ∧ W.cell? ⟨w.heap.size, 1, none⟩ = some (.slice A1 (List.length x.2.1) c1) ∧ W.cell? ⟨w.heap.size, 2, none⟩ = some (.slice A2 (List.length x.2.2.1) c2) ∧ W.cell? ⟨w.heap.size, 3, none⟩ = some (.int .i64 x.2.2.2.1) ∧ W.cell? ⟨w.heap.size, 4, none⟩ = some (.int .i64 x.2.2.2.2)) := fun W hW => ⟨(hW.cell (p := ⟨w.heap.size, 0, none⟩) zb).trans kb0, (hW.cell (p := ⟨w.heap.size, 1, none⟩) zb).trans kb1, (hW.cell (p := ⟨w.heap.size, 2, none⟩) zb).trans kb2, (hW.cell (p := ⟨w.heap.size, 3, none⟩) zb).trans kb3, (hW.cell (p := ⟨w.heap.size, 4, none⟩) zb).trans kb4⟩
  clear kb0 kb1 kb2 kb3 kb4
  have HL0 : Hid (Row flatI (WX.alloc (.cells #[] 3)) WX.heap.size 3 (.slice (some ⟨w.heap.size + 1, 0, none⟩) 0 0) []) := by unfold Hid; rw [← zb0.out]; exact Row.lit0 flatI WX 3 (Nat.le_refl _)
  go_loopw [5, 6] (fun out i wr => ∃ k : Nat, k ≤ l.length ∧ i = .int .i64 k ∧ Row flatI wr WX.heap.size 3 out (mkIdx l x k) ∧ Below WX.heap.size WX wr) (fun _ i _ => l.length - (intOf i).toNat)
  case atStart => exact ⟨0, by omega, rfl, HL0.out, (by repeat' (first | (with_reducible exact Below.refl _ _) | (with_reducible assumption) | (with_reducible refine bel_set ?_ (by (try dsimp only); omega) _) | (with_reducible refine bel_alloc ?_ _) | (with_reducible refine bel_drewN ?_ _) | (with_reducible refine bel_drew ?_)))⟩
  case round =>
    obtain ⟨k, hk, rfl, hr, hb⟩ := hrel
    have HR := Lib.hid hr
    clear hr
    obtain ⟨j0, j1, j2, j3, j4⟩ := HC.out _ hb
    have hw : Below w.heap.size w wr := bel_trans hvb hb
    have hz0 : w.heap.size < wr.heap.size := by have := hb.size; omega
    have HLen := Lib.hid (mkIdx_len l x k)
    by_cases hlt : k < l.length
    · obtain ⟨b, o, ds, rfl, hl, hcell, hrd⟩ := Ty.rd_at (Ty.rd_below hw h1) hlt
      obtain ⟨Aa0, ca0, rfl, sag0, sag1⟩ := rd_Key hrd
      have e0 : wr.cell? ⟨b, o + k * 2, none⟩ = some (.slice Aa0 (List.length l[k].1) ca0) := by simpa [Ty.sz] using hcell 0 (by decide)
      have e1 : wr.cell? ⟨b, o + k * 2 + 1, none⟩ = some (.int .i64 l[k].2) := by simpa [Ty.sz] using hcell 1 (by decide)
      clear hcell hl
      have i0 : (0 : Int) ≤ (k : Int) := by omega
      have i1 : (k : Int) < (l.length : Int) := by omega
      go_wp2_with fail
      go_still_tail 6, (by kernel_rfl)
      go_wp2_with fail
      refine (C_spec_VerifyData _ _ _ x (Ty.rd_below (bel_drew hw) h') sag1 s1).mono ?_
      rintro e w1 ⟨rfl, hb1⟩
      have hv1 : Below wr.heap.size wr w1 := bel_trans (bel_drew (Below.refl _ _)) hb1
      have hb1' : Below WX.heap.size WX w1 := bel_trans hb hv1
      have HR1 := Lib.hid (HR.out.below hv1)
      cases q0 : f_VerifyData l[k].2 x
      · have HQ := Lib.hid (mkIdx_no hlt q0)
        go_wp2
        go_roundw
        case rel => exact ⟨k + 1, by omega, by go_num, by rw [HQ.out]; exact HR1.out, hb1'⟩
        case measure => simp [intOf]; omega
      · have HQ := Lib.hid (mkIdx_yes hlt q0)
        have HX := Lib.hid (Row.lit1 flatI w1 3 (k : Int) (okI (by omega) (by omega)) (Nat.le_refl _))
        go_wp2_with (at_builtin; go_loud (refine wpList_append_row rfl _ _ 44 rfl flatI WX.heap.size 3 infoI rfl Try.underlying44 _ _ (mkIdx l x k) [(k : Int)] rfl rfl (HR1.out.below (by repeat' (first | (with_reducible exact Below.refl _ _) | (with_reducible assumption) | (with_reducible refine bel_set ?_ (by (try dsimp only); omega) _) | (with_reducible refine bel_alloc ?_ _) | (with_reducible refine bel_drewN ?_ _) | (with_reducible refine bel_drew ?_)))) (HX.out.rd (by (try simp only [World.size_alloc, World.size_setCell, size_drewN, World.size_drew]); omega)) ?_ ?_ ?_ ?_))
        case refine_1 => have := HLen.out; simp only [List.length_cons, List.length_nil]; omega
        case refine_2 => have := HLen.out; simp only [List.length_cons, List.length_nil]; unfold maxLen; omega
        case refine_3 => have := hb1'.size; simp only [World.size_alloc]; omega
        intro v' w' hr' hg'
        have hb' : Below WX.heap.size WX w' := bel_grown (bel_alloc hb1' _) (by have := hb1'.size; simp only [World.size_alloc]; omega) hg' (fun g hg => (HR1.out.block g hg).1)
        have HR' := Lib.hid hr'
        clear hr' hg'
        go_wp2
        go_roundw
        case rel => exact ⟨k + 1, by omega, by go_num, by rw [HQ.out]; exact HR'.out, hb'⟩
        case measure => simp [intOf]; omega
    · have HE : Hid (f_MatchingKeys l x = mkIdx l x k) := by unfold Hid f_MatchingKeys; rw [show k = l.length from by omega]
      obtain ⟨A9, c9, fp9, rfl, how9, hfr9⟩ := HR.out.own hb.size
      go_wp2
      go_ret
      rw [HE.out]
      exact ⟨A9, c9, fp9, rfl, how9, hfr9.mono (by omega) (Nat.le_refl _), hw⟩
end Go.Proofs.Ytamodpeeocmneaa
