/- Texts of this claim, merged by a program: Mky Vsg Swk Kpl. -/
import Derived.Test.YtldgbnlcnlfmeaaGreatMk4
import Derived.StillTailTactics
import Derived.Test.YtldgbnlcnlfmeaaGreatMk3
import Derived.Test.YtldgbnlcnlfmeaaGreatMk7
/- Which keys a signature matches. Printed by gen17.py. -/
namespace Go.Proofs.YtldgbnlcnlfmeaaGreat
open Go.RowKit
set_option linter.unusedVariables false
set_option linter.unusedSimpArgs false

def mkP (l : List (Ty.D tKey)) (x : tData.D) (i : Nat) : Bool := match l[i]? with | some k => f_VerifyData k.2 x | none => false
def mkIdx (l : List (Ty.D tKey)) (x : tData.D) (k : Nat) : List Int := ((List.range k).filter (mkP l x)).map (fun (i : Nat) => (i : Int))
def f_MatchingKeys (l : List (Ty.D tKey)) (x : tData.D) : List Int := mkIdx l x l.length
theorem mkIdx_len (l : List (Ty.D tKey)) (x : tData.D) (k : Nat) : (mkIdx l x k).length ≤ k := by
  unfold mkIdx
  rw [List.length_map]
  have := List.length_filter_le (mkP l x) (List.range k)
  rw [List.length_range] at this; exact this
theorem mkIdx_yes {l : List (Ty.D tKey)} {x : tData.D} {k : Nat} (h : k < l.length) (hq : f_VerifyData l[k].2 x = true) : mkIdx l x (k + 1) = mkIdx l x k ++ [(k : Int)] := by
  unfold mkIdx
  rw [List.range_succ, List.filter_append, List.map_append]
  have : mkP l x k = true := by unfold mkP; rw [List.getElem?_eq_getElem h]; exact hq
  simp [List.filter_cons, this]
theorem mkIdx_no {l : List (Ty.D tKey)} {x : tData.D} {k : Nat} (h : k < l.length) (hq : f_VerifyData l[k].2 x = false) : mkIdx l x (k + 1) = mkIdx l x k := by
  unfold mkIdx
  rw [List.range_succ, List.filter_append, List.map_append]
  have : mkP l x k = false := by unfold mkP; rw [List.getElem?_eq_getElem h]; exact hq
  simp [List.filter_cons, this]
set_option maxRecDepth 100000 in
set_option maxHeartbeats 4000000 in
theorem C_impl_MatchingKeys (w : World) (v : Value) (l : List (Ty.D tKey)) (cs : List Value) (x : tData.D) (h1 : (Ty.sl tKey).rd w [v] l) (h : tData.rd w cs x) (s0 : Ty.bulk (.sl tKey) l ≤ 1048576) (s1 : Ty.bulk tData x ≤ 1048576) :
    Calls Tryz.prog 44 #[v, .agg cs.toArray] w (RetSl w .int (f_MatchingKeys l x)) := by
  have h' := h
  obtain ⟨A, c, rfl, hc, hm, hn⟩ := Ty.rd_sl h1
  obtain ⟨A0, c0, A1, c1, A2, c2, rfl, g0, g1, g2, b3, b4⟩ := rd_Data h
  have hll := Ty.bulk_len s0
  have kb0 : (w.alloc (.cells #[.slice A0 (List.length x.1) c0, .slice A1 (List.length x.2.1) c1, .slice A2 (List.length x.2.2.1) c2, .int .i64 x.2.2.2.1, .int .i64 x.2.2.2.2] 34)).cell? ⟨w.heap.size, 0, none⟩ = some (.slice A0 (List.length x.1) c0) := cell_new w _ _ 0 rfl
  have kb1 : (w.alloc (.cells #[.slice A0 (List.length x.1) c0, .slice A1 (List.length x.2.1) c1, .slice A2 (List.length x.2.2.1) c2, .int .i64 x.2.2.2.1, .int .i64 x.2.2.2.2] 34)).cell? ⟨w.heap.size, 1, none⟩ = some (.slice A1 (List.length x.2.1) c1) := cell_new w _ _ 1 rfl
  have kb2 : (w.alloc (.cells #[.slice A0 (List.length x.1) c0, .slice A1 (List.length x.2.1) c1, .slice A2 (List.length x.2.2.1) c2, .int .i64 x.2.2.2.1, .int .i64 x.2.2.2.2] 34)).cell? ⟨w.heap.size, 2, none⟩ = some (.slice A2 (List.length x.2.2.1) c2) := cell_new w _ _ 2 rfl
  have kb3 : (w.alloc (.cells #[.slice A0 (List.length x.1) c0, .slice A1 (List.length x.2.1) c1, .slice A2 (List.length x.2.2.1) c2, .int .i64 x.2.2.2.1, .int .i64 x.2.2.2.2] 34)).cell? ⟨w.heap.size, 3, none⟩ = some (.int .i64 x.2.2.2.1) := cell_new w _ _ 3 rfl
  have kb4 : (w.alloc (.cells #[.slice A0 (List.length x.1) c0, .slice A1 (List.length x.2.1) c1, .slice A2 (List.length x.2.2.1) c2, .int .i64 x.2.2.2.1, .int .i64 x.2.2.2.2] 34)).cell? ⟨w.heap.size, 4, none⟩ = some (.int .i64 x.2.2.2.2) := cell_new w _ _ 4 rfl
  have hvb : Below w.heap.size w (w.alloc (.cells #[.slice A0 (List.length x.1) c0, .slice A1 (List.length x.2.1) c1, .slice A2 (List.length x.2.2.1) c2, .int .i64 x.2.2.2.1, .int .i64 x.2.2.2.2] 34)) := (by repeat' (first | (with_reducible exact Below.refl _ _) | (with_reducible assumption) | (with_reducible refine bel_set ?_ (by (try dsimp only); omega) _) | (with_reducible refine bel_alloc ?_ _) | (with_reducible refine bel_drewN ?_ _) | (with_reducible refine bel_drew ?_)))
  have zb : w.heap.size < (w.alloc (.cells #[.slice A0 (List.length x.1) c0, .slice A1 (List.length x.2.1) c1, .slice A2 (List.length x.2.2.1) c2, .int .i64 x.2.2.2.1, .int .i64 x.2.2.2.2] 34)).heap.size := by rw [World.size_alloc]; omega
  have zb0 := Lib.hid (show (w.alloc (.cells #[.slice A0 (List.length x.1) c0, .slice A1 (List.length x.2.1) c1, .slice A2 (List.length x.2.2.1) c2, .int .i64 x.2.2.2.1, .int .i64 x.2.2.2.2] 34)).heap.size = w.heap.size + 1 from by rw [World.size_alloc])
  go_enter Tryz.func44, Tryz.ntmps44
  go_wp2
  generalize (w.alloc (.cells #[.slice A0 (List.length x.1) c0, .slice A1 (List.length x.2.1) c1, .slice A2 (List.length x.2.2.1) c2, .int .i64 x.2.2.2.1, .int .i64 x.2.2.2.2] 34)) = WX at kb0 kb1 kb2 kb3 kb4 hvb zb zb0 ⊢
  have HC : Hid (∀ W, Below WX.heap.size WX W → W.cell? ⟨w.heap.size, 0, none⟩ = some (.slice A0 (List.length x.1) c0) ∧ W.cell? ⟨w.heap.size, 1, none⟩ = some (.slice A1 (List.length x.2.1) c1) ∧ W.cell? ⟨w.heap.size, 2, none⟩ = some (.slice A2 (List.length x.2.2.1) c2) ∧ W.cell? ⟨w.heap.size, 3, none⟩ = some (.int .i64 x.2.2.2.1) ∧ W.cell? ⟨w.heap.size, 4, none⟩ = some (.int .i64 x.2.2.2.2)) := fun W hW => ⟨(hW.cell (p := ⟨w.heap.size, 0, none⟩) zb).trans kb0, (hW.cell (p := ⟨w.heap.size, 1, none⟩) zb).trans kb1, (hW.cell (p := ⟨w.heap.size, 2, none⟩) zb).trans kb2, (hW.cell (p := ⟨w.heap.size, 3, none⟩) zb).trans kb3, (hW.cell (p := ⟨w.heap.size, 4, none⟩) zb).trans kb4⟩
  clear kb0 kb1 kb2 kb3 kb4
  have HL0 : Hid (Row flatI (WX.alloc (.cells #[] 3)) WX.heap.size 3 (.slice (some ⟨w.heap.size + 1, 0, none⟩) 0 0) []) := by unfold Hid; rw [← zb0.out]; exact Row.lit0 flatI WX 3 (Nat.le_refl _)
  go_loopw [5, 11] (fun out i wr => ∃ k : Nat, k ≤ l.length ∧ i = .int .i64 k ∧ Row flatI wr WX.heap.size 3 out (mkIdx l x k) ∧ Below WX.heap.size WX wr) (fun _ i _ => l.length - (intOf i).toNat)
  case atStart => exact ⟨0, by omega, rfl, HL0.out, (by repeat' (first | (with_reducible exact Below.refl _ _) | (with_reducible assumption) | (with_reducible refine bel_set ?_ (by (try dsimp only); omega) _) | (with_reducible refine bel_alloc ?_ _) | (with_reducible refine bel_drewN ?_ _) | (with_reducible refine bel_drew ?_)))⟩
  case round =>
    obtain ⟨k, hk, rfl, hr, hb⟩ := hrel
    have HR := Lib.hid hr
    clear hr
    obtain ⟨j0, j1, j2, j3, j4⟩ := HC.out _ hb
    have hw : Below w.heap.size w wr := bel_trans hvb hb
    have hz0 : w.heap.size < wr.heap.size := by have := hb.size; omega
    have HLen := Lib.hid (mkIdx_len l x k)
    by_cases hlt : k < l.length
    · obtain ⟨b, o, ds, rfl, hl, hcell, hrd⟩ := Ty.rd_at (Ty.rd_below hw h1) hlt
      obtain ⟨Aa0, ca0, rfl, sag0, sag1⟩ := rd_Key hrd
      have e0 : wr.cell? ⟨b, o + k * 2, none⟩ = some (.slice Aa0 (List.length l[k].1) ca0) := by simpa [Ty.sz] using hcell 0 (by decide)
      have e1 : wr.cell? ⟨b, o + k * 2 + 1, none⟩ = some (.int .i64 l[k].2) := by simpa [Ty.sz] using hcell 1 (by decide)
      clear hcell hl
      have hlb : b < wr.heap.size := World.block_lt_of_cell? wr _ e0
      go_wp2_with fail
      refine (C_impl_VerifyData _ _ _ x (Ty.rd_below (bel_trans hw (by repeat' (first | (with_reducible exact Below.refl _ _) | (with_reducible assumption) | (with_reducible refine bel_set ?_ (by (try dsimp only); omega) _) | (with_reducible refine bel_alloc ?_ _) | (with_reducible refine bel_drewN ?_ _) | (with_reducible refine bel_drew ?_)))) h') sag1 s1).mono ?_
      rintro e w1 ⟨rfl, hb1⟩
      have hv1 : Below wr.heap.size wr w1 := bel_trans (by repeat' (first | (with_reducible exact Below.refl _ _) | (with_reducible assumption) | (with_reducible refine bel_set ?_ (by (try dsimp only); omega) _) | (with_reducible refine bel_alloc ?_ _) | (with_reducible refine bel_drewN ?_ _) | (with_reducible refine bel_drew ?_))) hb1
      have hb1' : Below WX.heap.size WX w1 := bel_trans hb hv1
      have HR1 := Lib.hid (HR.out.below hv1)
      cases q0 : f_VerifyData l[k].2 x
      · have HQ := Lib.hid (mkIdx_no hlt q0)
        go_wp2
        go_roundw
        case rel => exact ⟨k + 1, by omega, by go_num, by rw [HQ.out]; exact HR1.out, hb1'⟩
        case measure => simp [intOf]; omega
      · have HQ := Lib.hid (mkIdx_yes hlt q0)
        have HX := Lib.hid (Row.lit1 flatI w1 3 (k : Int) (okI (by omega) (by omega)) (Nat.le_refl _))
        go_wp2_with (at_builtin; go_loud (refine wpList_append_row rfl _ _ 76 rfl flatI WX.heap.size 3 infoI rfl Tryz.underlying76 _ _ (mkIdx l x k) [(k : Int)] rfl rfl (HR1.out.below (by repeat' (first | (with_reducible exact Below.refl _ _) | (with_reducible assumption) | (with_reducible refine bel_set ?_ (by (try dsimp only); omega) _) | (with_reducible refine bel_alloc ?_ _) | (with_reducible refine bel_drewN ?_ _) | (with_reducible refine bel_drew ?_)))) (HX.out.rd (by (try simp only [World.size_alloc, World.size_setCell, size_drewN, World.size_drew]); omega)) ?_ ?_ ?_ ?_))
        case refine_1 => have := HLen.out; simp only [List.length_cons, List.length_nil]; omega
        case refine_2 => have := HLen.out; simp only [List.length_cons, List.length_nil]; unfold maxLen; omega
        case refine_3 => have := hb1'.size; simp only [World.size_alloc]; omega
        intro v' w' hr' hg'
        have hb' : Below WX.heap.size WX w' := bel_grown (bel_alloc hb1' _) (by have := hb1'.size; simp only [World.size_alloc]; omega) hg' (fun g hg => (HR1.out.block g hg).1)
        have HR' := Lib.hid hr'
        clear hr' hg'
        go_wp2
        go_roundw
        case rel => exact ⟨k + 1, by omega, by go_num, by rw [HQ.out]; exact HR'.out, hb'⟩
        case measure => simp [intOf]; omega
    · have HE : Hid (f_MatchingKeys l x = mkIdx l x k) := by unfold Hid f_MatchingKeys; rw [show k = l.length from by omega]
      obtain ⟨A9, c9, fp9, rfl, how9, hfr9⟩ := HR.out.own hb.size
      go_wp2
      go_ret
      rw [HE.out]
      exact ⟨A9, c9, fp9, rfl, how9, hfr9.mono (by omega) (Nat.le_refl _), hw⟩
set_option maxRecDepth 100000 in
set_option maxHeartbeats 4000000 in
theorem C_spec_MatchingKeys (w : World) (v : Value) (l : List (Ty.D tKey)) (cs : List Value) (x : tData.D) (h1 : (Ty.sl tKey).rd w [v] l) (h : tData.rd w cs x) (s0 : Ty.bulk (.sl tKey) l ≤ 1048576) (s1 : Ty.bulk tData x ≤ 1048576) :
    Calls Tryz.prog 45 #[v, .agg cs.toArray] w (RetSl w .int (f_MatchingKeys l x)) := by
  have h' := h
  obtain ⟨A, c, rfl, hc, hm, hn⟩ := Ty.rd_sl h1
  obtain ⟨A0, c0, A1, c1, A2, c2, rfl, g0, g1, g2, b3, b4⟩ := rd_Data h
  have hll := Ty.bulk_len s0
  have kb0 : (w.alloc (.cells #[.slice A0 (List.length x.1) c0, .slice A1 (List.length x.2.1) c1, .slice A2 (List.length x.2.2.1) c2, .int .i64 x.2.2.2.1, .int .i64 x.2.2.2.2] 34)).cell? ⟨w.heap.size, 0, none⟩ = some (.slice A0 (List.length x.1) c0) := cell_new w _ _ 0 rfl
  have kb1 : (w.alloc (.cells #[.slice A0 (List.length x.1) c0, .slice A1 (List.length x.2.1) c1, .slice A2 (List.length x.2.2.1) c2, .int .i64 x.2.2.2.1, .int .i64 x.2.2.2.2] 34)).cell? ⟨w.heap.size, 1, none⟩ = some (.slice A1 (List.length x.2.1) c1) := cell_new w _ _ 1 rfl
  have kb2 : (w.alloc (.cells #[.slice A0 (List.length x.1) c0, .slice A1 (List.length x.2.1) c1, .slice A2 (List.length x.2.2.1) c2, .int .i64 x.2.2.2.1, .int .i64 x.2.2.2.2] 34)).cell? ⟨w.heap.size, 2, none⟩ = some (.slice A2 (List.length x.2.2.1) c2) := cell_new w _ _ 2 rfl
  have kb3 : (w.alloc (.cells #[.slice A0 (List.length x.1) c0, .slice A1 (List.length x.2.1) c1, .slice A2 (List.length x.2.2.1) c2, .int .i64 x.2.2.2.1, .int .i64 x.2.2.2.2] 34)).cell? ⟨w.heap.size, 3, none⟩ = some (.int .i64 x.2.2.2.1) := cell_new w _ _ 3 rfl
  have kb4 : (w.alloc (.cells #[.slice A0 (List.length x.1) c0, .slice A1 (List.length x.2.1) c1, .slice A2 (List.length x.2.2.1) c2, .int .i64 x.2.2.2.1, .int .i64 x.2.2.2.2] 34)).cell? ⟨w.heap.size, 4, none⟩ = some (.int .i64 x.2.2.2.2) := cell_new w _ _ 4 rfl
  have hvb : Below w.heap.size w (w.alloc (.cells #[.slice A0 (List.length x.1) c0, .slice A1 (List.length x.2.1) c1, .slice A2 (List.length x.2.2.1) c2, .int .i64 x.2.2.2.1, .int .i64 x.2.2.2.2] 34)) := (by repeat' (first | (with_reducible exact Below.refl _ _) | (with_reducible assumption) | (with_reducible refine bel_set ?_ (by (try dsimp only); omega) _) | (with_reducible refine bel_alloc ?_ _) | (with_reducible refine bel_drewN ?_ _) | (with_reducible refine bel_drew ?_)))
  have zb : w.heap.size < (w.alloc (.cells #[.slice A0 (List.length x.1) c0, .slice A1 (List.length x.2.1) c1, .slice A2 (List.length x.2.2.1) c2, .int .i64 x.2.2.2.1, .int .i64 x.2.2.2.2] 34)).heap.size := by rw [World.size_alloc]; omega
  have zb0 := Lib.hid (show (w.alloc (.cells #[.slice A0 (List.length x.1) c0, .slice A1 (List.length x.2.1) c1, .slice A2 (List.length x.2.2.1) c2, .int .i64 x.2.2.2.1, .int .i64 x.2.2.2.2] 34)).heap.size = w.heap.size + 1 from by rw [World.size_alloc])
  go_enter Tryz.func45, Tryz.ntmps45
  go_wp2
  generalize (w.alloc (.cells #[.slice A0 (List.length x.1) c0, .slice A1 (List.length x.2.1) c1, .slice A2 (List.length x.2.2.1) c2, .int .i64 x.2.2.2.1, .int .i64 x.2.2.2.2] 34)) = WX at kb0 kb1 kb2 kb3 kb4 hvb zb zb0 ⊢
  have HC : Hid (∀ W, Below WX.heap.size WX W → W.cell? ⟨w.heap.size, 0, none⟩ = some (.slice A0 (List.length x.1) c0) ∧ W.cell? ⟨w.heap.size, 1, none⟩ = some (.slice A1 (List.length x.2.1) c1) ∧ W.cell? ⟨w.heap.size, 2, none⟩ = some (.slice A2 (List.length x.2.2.1) c2) ∧ W.cell? ⟨w.heap.size, 3, none⟩ = some (.int .i64 x.2.2.2.1) ∧ W.cell? ⟨w.heap.size, 4, none⟩ = some (.int .i64 x.2.2.2.2)) := fun W hW => ⟨(hW.cell (p := ⟨w.heap.size, 0, none⟩) zb).trans kb0, (hW.cell (p := ⟨w.heap.size, 1, none⟩) zb).trans kb1, (hW.cell (p := ⟨w.heap.size, 2, none⟩) zb).trans kb2, (hW.cell (p := ⟨w.heap.size, 3, none⟩) zb).trans kb3, (hW.cell (p := ⟨w.heap.size, 4, none⟩) zb).trans kb4⟩
  clear kb0 kb1 kb2 kb3 kb4
  have HL0 : Hid (Row flatI (WX.alloc (.cells #[] 3)) WX.heap.size 3 (.slice (some ⟨w.heap.size + 1, 0, none⟩) 0 0) []) := by unfold Hid; rw [← zb0.out]; exact Row.lit0 flatI WX 3 (Nat.le_refl _)
  go_loopw [5, 6] (fun out i wr => ∃ k : Nat, k ≤ l.length ∧ i = .int .i64 k ∧ Row flatI wr WX.heap.size 3 out (mkIdx l x k) ∧ Below WX.heap.size WX wr) (fun _ i _ => l.length - (intOf i).toNat)
  case atStart => exact ⟨0, by omega, rfl, HL0.out, (by repeat' (first | (with_reducible exact Below.refl _ _) | (with_reducible assumption) | (with_reducible refine bel_set ?_ (by (try dsimp only); omega) _) | (with_reducible refine bel_alloc ?_ _) | (with_reducible refine bel_drewN ?_ _) | (with_reducible refine bel_drew ?_)))⟩
  case round =>
    obtain ⟨k, hk, rfl, hr, hb⟩ := hrel
    have HR := Lib.hid hr
    clear hr
    obtain ⟨j0, j1, j2, j3, j4⟩ := HC.out _ hb
    have hw : Below w.heap.size w wr := bel_trans hvb hb
    have hz0 : w.heap.size < wr.heap.size := by have := hb.size; omega
    have HLen := Lib.hid (mkIdx_len l x k)
    by_cases hlt : k < l.length
    · obtain ⟨b, o, ds, rfl, hl, hcell, hrd⟩ := Ty.rd_at (Ty.rd_below hw h1) hlt
      obtain ⟨Aa0, ca0, rfl, sag0, sag1⟩ := rd_Key hrd
      have e0 : wr.cell? ⟨b, o + k * 2, none⟩ = some (.slice Aa0 (List.length l[k].1) ca0) := by simpa [Ty.sz] using hcell 0 (by decide)
      have e1 : wr.cell? ⟨b, o + k * 2 + 1, none⟩ = some (.int .i64 l[k].2) := by simpa [Ty.sz] using hcell 1 (by decide)
      clear hcell hl
      have i0 : (0 : Int) ≤ (k : Int) := by omega
      have i1 : (k : Int) < (l.length : Int) := by omega
      go_wp2_with fail
      go_still_tail 6, (by kernel_rfl)
      go_wp2_with fail
      refine (C_spec_VerifyData _ _ _ x (Ty.rd_below (bel_drew hw) h') sag1 s1).mono ?_
      rintro e w1 ⟨rfl, hb1⟩
      have hv1 : Below wr.heap.size wr w1 := bel_trans (bel_drew (Below.refl _ _)) hb1
      have hb1' : Below WX.heap.size WX w1 := bel_trans hb hv1
      have HR1 := Lib.hid (HR.out.below hv1)
      cases q0 : f_VerifyData l[k].2 x
      · have HQ := Lib.hid (mkIdx_no hlt q0)
        go_wp2
        go_roundw
        case rel => exact ⟨k + 1, by omega, by go_num, by rw [HQ.out]; exact HR1.out, hb1'⟩
        case measure => simp [intOf]; omega
      · have HQ := Lib.hid (mkIdx_yes hlt q0)
        have HX := Lib.hid (Row.lit1 flatI w1 3 (k : Int) (okI (by omega) (by omega)) (Nat.le_refl _))
        go_wp2_with (at_builtin; go_loud (refine wpList_append_row rfl _ _ 76 rfl flatI WX.heap.size 3 infoI rfl Tryz.underlying76 _ _ (mkIdx l x k) [(k : Int)] rfl rfl (HR1.out.below (by repeat' (first | (with_reducible exact Below.refl _ _) | (with_reducible assumption) | (with_reducible refine bel_set ?_ (by (try dsimp only); omega) _) | (with_reducible refine bel_alloc ?_ _) | (with_reducible refine bel_drewN ?_ _) | (with_reducible refine bel_drew ?_)))) (HX.out.rd (by (try simp only [World.size_alloc, World.size_setCell, size_drewN, World.size_drew]); omega)) ?_ ?_ ?_ ?_))
        case refine_1 => have := HLen.out; simp only [List.length_cons, List.length_nil]; omega
        case refine_2 => have := HLen.out; simp only [List.length_cons, List.length_nil]; unfold maxLen; omega
        case refine_3 => have := hb1'.size; simp only [World.size_alloc]; omega
        intro v' w' hr' hg'
        have hb' : Below WX.heap.size WX w' := bel_grown (bel_alloc hb1' _) (by have := hb1'.size; simp only [World.size_alloc]; omega) hg' (fun g hg => (HR1.out.block g hg).1)
        have HR' := Lib.hid hr'
        clear hr' hg'
        go_wp2
        go_roundw
        case rel => exact ⟨k + 1, by omega, by go_num, by rw [HQ.out]; exact HR'.out, hb'⟩
        case measure => simp [intOf]; omega
    · have HE : Hid (f_MatchingKeys l x = mkIdx l x k) := by unfold Hid f_MatchingKeys; rw [show k = l.length from by omega]
      obtain ⟨A9, c9, fp9, rfl, how9, hfr9⟩ := HR.out.own hb.size
      go_wp2
      go_ret
      rw [HE.out]
      exact ⟨A9, c9, fp9, rfl, how9, hfr9.mono (by omega) (Nat.le_refl _), hw⟩
end Go.Proofs.YtldgbnlcnlfmeaaGreat

/- Signatures are verified. Printed by gen17.py. -/
namespace Go.Proofs.YtldgbnlcnlfmeaaGreat
open Go.RowKit
set_option linter.unusedVariables false
set_option linter.unusedSimpArgs false

def f_VerifySignature (l : List (Ty.D tKey)) (x : tData.D) : Bool := f_VerifyData (f_SecretOf l x.2.2.1) x
theorem keyName_bulk {x : tData.D} (s : Ty.bulk tData x ≤ 1048576) : Ty.bulk (.sl .str) x.2.2.1 ≤ 1048576 := by
  have h1 : Ty.bulk (.sl .str) x.1 + (Ty.bulk (.sl .byte) x.2.1 + (Ty.bulk (.sl .str) x.2.2.1 + (0 + 0))) ≤ 1048576 := s
  omega
set_option maxHeartbeats 4000000 in
theorem C_impl_VerifySignature (w : World) (v : Value) (l : List (Ty.D tKey)) (cs : List Value) (x : tData.D) (h1 : (Ty.sl tKey).rd w [v] l) (h : tData.rd w cs x) (s0 : Ty.bulk (.sl tKey) l ≤ 1048576) (s1 : Ty.bulk tData x ≤ 1048576) :
    Calls Tryz.prog 31 #[v, .agg cs.toArray] w (RetB w (f_VerifySignature l x)) := by
  have h' := h
  obtain ⟨A0, c0, A1, c1, A2, c2, rfl, g0, g1, g2, b3, b4⟩ := rd_Data h
  have hbd := secret_bd x.2.2.1 h1
  have hkb := keyName_bulk s1
  have kb0 : (w.alloc (.cells #[.slice A0 (List.length x.1) c0, .slice A1 (List.length x.2.1) c1, .slice A2 (List.length x.2.2.1) c2, .int .i64 x.2.2.2.1, .int .i64 x.2.2.2.2] 34)).cell? ⟨w.heap.size, 0, none⟩ = some (.slice A0 (List.length x.1) c0) := cell_new w _ _ 0 rfl
  have kb1 : (w.alloc (.cells #[.slice A0 (List.length x.1) c0, .slice A1 (List.length x.2.1) c1, .slice A2 (List.length x.2.2.1) c2, .int .i64 x.2.2.2.1, .int .i64 x.2.2.2.2] 34)).cell? ⟨w.heap.size, 1, none⟩ = some (.slice A1 (List.length x.2.1) c1) := cell_new w _ _ 1 rfl
  have kb2 : (w.alloc (.cells #[.slice A0 (List.length x.1) c0, .slice A1 (List.length x.2.1) c1, .slice A2 (List.length x.2.2.1) c2, .int .i64 x.2.2.2.1, .int .i64 x.2.2.2.2] 34)).cell? ⟨w.heap.size, 2, none⟩ = some (.slice A2 (List.length x.2.2.1) c2) := cell_new w _ _ 2 rfl
  have kb3 : (w.alloc (.cells #[.slice A0 (List.length x.1) c0, .slice A1 (List.length x.2.1) c1, .slice A2 (List.length x.2.2.1) c2, .int .i64 x.2.2.2.1, .int .i64 x.2.2.2.2] 34)).cell? ⟨w.heap.size, 3, none⟩ = some (.int .i64 x.2.2.2.1) := cell_new w _ _ 3 rfl
  have kb4 : (w.alloc (.cells #[.slice A0 (List.length x.1) c0, .slice A1 (List.length x.2.1) c1, .slice A2 (List.length x.2.2.1) c2, .int .i64 x.2.2.2.1, .int .i64 x.2.2.2.2] 34)).cell? ⟨w.heap.size, 4, none⟩ = some (.int .i64 x.2.2.2.2) := cell_new w _ _ 4 rfl
  have hvb : Below w.heap.size w (w.alloc (.cells #[.slice A0 (List.length x.1) c0, .slice A1 (List.length x.2.1) c1, .slice A2 (List.length x.2.2.1) c2, .int .i64 x.2.2.2.1, .int .i64 x.2.2.2.2] 34)) := (by repeat' (first | (with_reducible exact Below.refl _ _) | (with_reducible assumption) | (with_reducible refine bel_set ?_ (by (try dsimp only); omega) _) | (with_reducible refine bel_alloc ?_ _) | (with_reducible refine bel_drewN ?_ _) | (with_reducible refine bel_drew ?_)))
  have zb : w.heap.size < (w.alloc (.cells #[.slice A0 (List.length x.1) c0, .slice A1 (List.length x.2.1) c1, .slice A2 (List.length x.2.2.1) c2, .int .i64 x.2.2.2.1, .int .i64 x.2.2.2.2] 34)).heap.size := by rw [World.size_alloc]; omega
  have zb0 := Lib.hid (show (w.alloc (.cells #[.slice A0 (List.length x.1) c0, .slice A1 (List.length x.2.1) c1, .slice A2 (List.length x.2.2.1) c2, .int .i64 x.2.2.2.1, .int .i64 x.2.2.2.2] 34)).heap.size = w.heap.size + 1 from by rw [World.size_alloc])
  go_enter Tryz.func31, Tryz.ntmps31
  go_wp2_with fail
  generalize (w.alloc (.cells #[.slice A0 (List.length x.1) c0, .slice A1 (List.length x.2.1) c1, .slice A2 (List.length x.2.2.1) c2, .int .i64 x.2.2.2.1, .int .i64 x.2.2.2.2] 34)) = WX at kb0 kb1 kb2 kb3 kb4 hvb zb zb0 ⊢
  have HC : Hid (∀ W, Below WX.heap.size WX W → W.cell? ⟨w.heap.size, 0, none⟩ = some (.slice A0 (List.length x.1) c0) ∧ W.cell? ⟨w.heap.size, 1, none⟩ = some (.slice A1 (List.length x.2.1) c1) ∧ W.cell? ⟨w.heap.size, 2, none⟩ = some (.slice A2 (List.length x.2.2.1) c2) ∧ W.cell? ⟨w.heap.size, 3, none⟩ = some (.int .i64 x.2.2.2.1) ∧ W.cell? ⟨w.heap.size, 4, none⟩ = some (.int .i64 x.2.2.2.2)) := fun W hW => ⟨(hW.cell (p := ⟨w.heap.size, 0, none⟩) zb).trans kb0, (hW.cell (p := ⟨w.heap.size, 1, none⟩) zb).trans kb1, (hW.cell (p := ⟨w.heap.size, 2, none⟩) zb).trans kb2, (hW.cell (p := ⟨w.heap.size, 3, none⟩) zb).trans kb3, (hW.cell (p := ⟨w.heap.size, 4, none⟩) zb).trans kb4⟩
  clear kb0 kb1 kb2 kb3 kb4
  have HS : Hid (∀ W, Below WX.heap.size WX W → Below WX.heap.size WX W ∧ W.cell? ⟨w.heap.size, 0, none⟩ = some (.slice A0 (List.length x.1) c0) ∧ W.cell? ⟨w.heap.size, 1, none⟩ = some (.slice A1 (List.length x.2.1) c1) ∧ W.cell? ⟨w.heap.size, 2, none⟩ = some (.slice A2 (List.length x.2.2.1) c2) ∧ W.cell? ⟨w.heap.size, 3, none⟩ = some (.int .i64 x.2.2.2.1) ∧ W.cell? ⟨w.heap.size, 4, none⟩ = some (.int .i64 x.2.2.2.2)) := fun W hW => ⟨hW, HC.out W hW⟩
  set_option maxRecDepth 100000 in go_region_held3 (fun W => Below WX.heap.size WX W ∧ W.cell? ⟨w.heap.size, 0, none⟩ = some (.slice A0 (List.length x.1) c0) ∧ W.cell? ⟨w.heap.size, 1, none⟩ = some (.slice A1 (List.length x.2.1) c1) ∧ W.cell? ⟨w.heap.size, 2, none⟩ = some (.slice A2 (List.length x.2.2.1) c2) ∧ W.cell? ⟨w.heap.size, 3, none⟩ = some (.int .i64 x.2.2.2.1) ∧ W.cell? ⟨w.heap.size, 4, none⟩ = some (.int .i64 x.2.2.2.2)) (exact HS.out _ (by (repeat' (first | (with_reducible exact Below.refl _ _) | (with_reducible assumption) | (with_reducible refine bel_set ?_ (by (try dsimp only); omega) _) | (with_reducible refine bel_alloc ?_ _) | (with_reducible refine bel_drewN ?_ _) | (with_reducible refine bel_drew ?_) | (with_reducible refine bel_trans ?_ (by assumption)))); done))
    (first
      | (go_at_call 47; (with_reducible refine (C_impl_SecretOf _ _ l _ x.2.2.1 (Ty.rd_below (by (repeat' (first | (with_reducible exact Below.refl _ _) | (with_reducible assumption) | (with_reducible refine bel_set ?_ (by (try dsimp only); omega) _) | (with_reducible refine bel_alloc ?_ _) | (with_reducible refine bel_drewN ?_ _) | (with_reducible refine bel_drew ?_) | (with_reducible refine bel_trans ?_ (by assumption)))); done) (Ty.rd_below hvb h1)) (Ty.rd_below (by (repeat' (first | (with_reducible exact Below.refl _ _) | (with_reducible assumption) | (with_reducible refine bel_set ?_ (by (try dsimp only); omega) _) | (with_reducible refine bel_alloc ?_ _) | (with_reducible refine bel_drewN ?_ _) | (with_reducible refine bel_drew ?_) | (with_reducible refine bel_trans ?_ (by assumption)))); done) (Ty.rd_below hvb g2)) s0 hkb).mono ?_); rintro e w1 ⟨rfl, hb1⟩)
      | (go_at_call 89; (with_reducible refine (C_impl_VerifyData _ _ _ x (Ty.rd_below (by (repeat' (first | (with_reducible exact Below.refl _ _) | (with_reducible assumption) | (with_reducible refine bel_set ?_ (by (try dsimp only); omega) _) | (with_reducible refine bel_alloc ?_ _) | (with_reducible refine bel_drewN ?_ _) | (with_reducible refine bel_drew ?_) | (with_reducible refine bel_trans ?_ (by assumption)))); done) (Ty.rd_below hvb h')) hbd s1).mono ?_); rintro e w2 ⟨rfl, hb2⟩)
      | fail)
  all_goals
    go_wp2
    go_ret
    exact ⟨rfl, bel_trans hvb (by (repeat' (first | (with_reducible exact Below.refl _ _) | (with_reducible assumption) | (with_reducible refine bel_set ?_ (by (try dsimp only); omega) _) | (with_reducible refine bel_alloc ?_ _) | (with_reducible refine bel_drewN ?_ _) | (with_reducible refine bel_drew ?_) | (with_reducible refine bel_trans ?_ (by assumption)))); done)⟩
set_option maxHeartbeats 4000000 in
theorem C_spec_VerifySignature (w : World) (v : Value) (l : List (Ty.D tKey)) (cs : List Value) (x : tData.D) (h1 : (Ty.sl tKey).rd w [v] l) (h : tData.rd w cs x) (s0 : Ty.bulk (.sl tKey) l ≤ 1048576) (s1 : Ty.bulk tData x ≤ 1048576) :
    Calls Tryz.prog 42 #[v, .agg cs.toArray] w (RetB w (f_VerifySignature l x)) := by
  have h' := h
  obtain ⟨A0, c0, A1, c1, A2, c2, rfl, g0, g1, g2, b3, b4⟩ := rd_Data h
  have hbd := secret_bd x.2.2.1 h1
  have hkb := keyName_bulk s1
  have kb0 : (w.alloc (.cells #[.slice A0 (List.length x.1) c0, .slice A1 (List.length x.2.1) c1, .slice A2 (List.length x.2.2.1) c2, .int .i64 x.2.2.2.1, .int .i64 x.2.2.2.2] 34)).cell? ⟨w.heap.size, 0, none⟩ = some (.slice A0 (List.length x.1) c0) := cell_new w _ _ 0 rfl
  have kb1 : (w.alloc (.cells #[.slice A0 (List.length x.1) c0, .slice A1 (List.length x.2.1) c1, .slice A2 (List.length x.2.2.1) c2, .int .i64 x.2.2.2.1, .int .i64 x.2.2.2.2] 34)).cell? ⟨w.heap.size, 1, none⟩ = some (.slice A1 (List.length x.2.1) c1) := cell_new w _ _ 1 rfl
  have kb2 : (w.alloc (.cells #[.slice A0 (List.length x.1) c0, .slice A1 (List.length x.2.1) c1, .slice A2 (List.length x.2.2.1) c2, .int .i64 x.2.2.2.1, .int .i64 x.2.2.2.2] 34)).cell? ⟨w.heap.size, 2, none⟩ = some (.slice A2 (List.length x.2.2.1) c2) := cell_new w _ _ 2 rfl
  have kb3 : (w.alloc (.cells #[.slice A0 (List.length x.1) c0, .slice A1 (List.length x.2.1) c1, .slice A2 (List.length x.2.2.1) c2, .int .i64 x.2.2.2.1, .int .i64 x.2.2.2.2] 34)).cell? ⟨w.heap.size, 3, none⟩ = some (.int .i64 x.2.2.2.1) := cell_new w _ _ 3 rfl
  have kb4 : (w.alloc (.cells #[.slice A0 (List.length x.1) c0, .slice A1 (List.length x.2.1) c1, .slice A2 (List.length x.2.2.1) c2, .int .i64 x.2.2.2.1, .int .i64 x.2.2.2.2] 34)).cell? ⟨w.heap.size, 4, none⟩ = some (.int .i64 x.2.2.2.2) := cell_new w _ _ 4 rfl
  have hvb : Below w.heap.size w (w.alloc (.cells #[.slice A0 (List.length x.1) c0, .slice A1 (List.length x.2.1) c1, .slice A2 (List.length x.2.2.1) c2, .int .i64 x.2.2.2.1, .int .i64 x.2.2.2.2] 34)) := (by repeat' (first | (with_reducible exact Below.refl _ _) | (with_reducible assumption) | (with_reducible refine bel_set ?_ (by (try dsimp only); omega) _) | (with_reducible refine bel_alloc ?_ _) | (with_reducible refine bel_drewN ?_ _) | (with_reducible refine bel_drew ?_)))
  have zb : w.heap.size < (w.alloc (.cells #[.slice A0 (List.length x.1) c0, .slice A1 (List.length x.2.1) c1, .slice A2 (List.length x.2.2.1) c2, .int .i64 x.2.2.2.1, .int .i64 x.2.2.2.2] 34)).heap.size := by rw [World.size_alloc]; omega
  have zb0 := Lib.hid (show (w.alloc (.cells #[.slice A0 (List.length x.1) c0, .slice A1 (List.length x.2.1) c1, .slice A2 (List.length x.2.2.1) c2, .int .i64 x.2.2.2.1, .int .i64 x.2.2.2.2] 34)).heap.size = w.heap.size + 1 from by rw [World.size_alloc])
  go_enter Tryz.func42, Tryz.ntmps42
  go_wp2_with fail
  generalize (w.alloc (.cells #[.slice A0 (List.length x.1) c0, .slice A1 (List.length x.2.1) c1, .slice A2 (List.length x.2.2.1) c2, .int .i64 x.2.2.2.1, .int .i64 x.2.2.2.2] 34)) = WX at kb0 kb1 kb2 kb3 kb4 hvb zb zb0 ⊢
  have HC : Hid (∀ W, Below WX.heap.size WX W → W.cell? ⟨w.heap.size, 0, none⟩ = some (.slice A0 (List.length x.1) c0) ∧ W.cell? ⟨w.heap.size, 1, none⟩ = some (.slice A1 (List.length x.2.1) c1) ∧ W.cell? ⟨w.heap.size, 2, none⟩ = some (.slice A2 (List.length x.2.2.1) c2) ∧ W.cell? ⟨w.heap.size, 3, none⟩ = some (.int .i64 x.2.2.2.1) ∧ W.cell? ⟨w.heap.size, 4, none⟩ = some (.int .i64 x.2.2.2.2)) := fun W hW => ⟨(hW.cell (p := ⟨w.heap.size, 0, none⟩) zb).trans kb0, (hW.cell (p := ⟨w.heap.size, 1, none⟩) zb).trans kb1, (hW.cell (p := ⟨w.heap.size, 2, none⟩) zb).trans kb2, (hW.cell (p := ⟨w.heap.size, 3, none⟩) zb).trans kb3, (hW.cell (p := ⟨w.heap.size, 4, none⟩) zb).trans kb4⟩
  clear kb0 kb1 kb2 kb3 kb4
  have HS : Hid (∀ W, Below WX.heap.size WX W → Below WX.heap.size WX W ∧ W.cell? ⟨w.heap.size, 0, none⟩ = some (.slice A0 (List.length x.1) c0) ∧ W.cell? ⟨w.heap.size, 1, none⟩ = some (.slice A1 (List.length x.2.1) c1) ∧ W.cell? ⟨w.heap.size, 2, none⟩ = some (.slice A2 (List.length x.2.2.1) c2) ∧ W.cell? ⟨w.heap.size, 3, none⟩ = some (.int .i64 x.2.2.2.1) ∧ W.cell? ⟨w.heap.size, 4, none⟩ = some (.int .i64 x.2.2.2.2)) := fun W hW => ⟨hW, HC.out W hW⟩
  set_option maxRecDepth 100000 in go_region_held3 (fun W => Below WX.heap.size WX W ∧ W.cell? ⟨w.heap.size, 0, none⟩ = some (.slice A0 (List.length x.1) c0) ∧ W.cell? ⟨w.heap.size, 1, none⟩ = some (.slice A1 (List.length x.2.1) c1) ∧ W.cell? ⟨w.heap.size, 2, none⟩ = some (.slice A2 (List.length x.2.2.1) c2) ∧ W.cell? ⟨w.heap.size, 3, none⟩ = some (.int .i64 x.2.2.2.1) ∧ W.cell? ⟨w.heap.size, 4, none⟩ = some (.int .i64 x.2.2.2.2)) (exact HS.out _ (by (repeat' (first | (with_reducible exact Below.refl _ _) | (with_reducible assumption) | (with_reducible refine bel_set ?_ (by (try dsimp only); omega) _) | (with_reducible refine bel_alloc ?_ _) | (with_reducible refine bel_drewN ?_ _) | (with_reducible refine bel_drew ?_) | (with_reducible refine bel_trans ?_ (by assumption)))); done))
    (first
      | (go_at_call 48; (with_reducible refine (C_spec_SecretOf _ _ l _ x.2.2.1 (Ty.rd_below (by (repeat' (first | (with_reducible exact Below.refl _ _) | (with_reducible assumption) | (with_reducible refine bel_set ?_ (by (try dsimp only); omega) _) | (with_reducible refine bel_alloc ?_ _) | (with_reducible refine bel_drewN ?_ _) | (with_reducible refine bel_drew ?_) | (with_reducible refine bel_trans ?_ (by assumption)))); done) (Ty.rd_below hvb h1)) (Ty.rd_below (by (repeat' (first | (with_reducible exact Below.refl _ _) | (with_reducible assumption) | (with_reducible refine bel_set ?_ (by (try dsimp only); omega) _) | (with_reducible refine bel_alloc ?_ _) | (with_reducible refine bel_drewN ?_ _) | (with_reducible refine bel_drew ?_) | (with_reducible refine bel_trans ?_ (by assumption)))); done) (Ty.rd_below hvb g2)) s0 hkb).mono ?_); rintro e w1 ⟨rfl, hb1⟩)
      | (go_at_call 100; (with_reducible refine (C_spec_VerifyData _ _ _ x (Ty.rd_below (by (repeat' (first | (with_reducible exact Below.refl _ _) | (with_reducible assumption) | (with_reducible refine bel_set ?_ (by (try dsimp only); omega) _) | (with_reducible refine bel_alloc ?_ _) | (with_reducible refine bel_drewN ?_ _) | (with_reducible refine bel_drew ?_) | (with_reducible refine bel_trans ?_ (by assumption)))); done) (Ty.rd_below hvb h')) hbd s1).mono ?_); rintro e w2 ⟨rfl, hb2⟩)
      | fail)
  all_goals
    go_wp2
    go_ret
    exact ⟨rfl, bel_trans hvb (by (repeat' (first | (with_reducible exact Below.refl _ _) | (with_reducible assumption) | (with_reducible refine bel_set ?_ (by (try dsimp only); omega) _) | (with_reducible refine bel_alloc ?_ _) | (with_reducible refine bel_drewN ?_ _) | (with_reducible refine bel_drew ?_) | (with_reducible refine bel_trans ?_ (by assumption)))); done)⟩
end Go.Proofs.YtldgbnlcnlfmeaaGreat

/- Data are signed with a key. Printed by gen24.py. -/
namespace Go.Proofs.YtldgbnlcnlfmeaaGreat
open Go.RowKit
set_option linter.unusedVariables false
set_option linter.unusedSimpArgs false

def swkD (by_ n : List (List UInt8)) (b : List UInt8) (till : Int) : tData.D := (n, b, by_, till, 0)
def swkX (l : List (Ty.D tKey)) (by_ n : List (List UInt8)) (b : List UInt8) (till : Int) : tData.D := f_SignData (f_SecretOf l by_) (swkD by_ n b till)
def zeroData : tData.D := ([], [], [], 0, 0)
def f1_SignWithKey (l : List (Ty.D tKey)) (by_ n : List (List UInt8)) (b : List UInt8) (till : Int) : Bool := !(decide (f_SecretOf l by_ = 0)) && f_ValidData (swkX l by_ n b till)
def f0_SignWithKey (l : List (Ty.D tKey)) (by_ n : List (List UInt8)) (b : List UInt8) (till : Int) : tData.D := if f1_SignWithKey l by_ n b till = true then swkX l by_ n b till else zeroData
theorem swk_no {l : List (Ty.D tKey)} {by_ n : List (List UInt8)} {b : List UInt8} {till : Int} (h : f1_SignWithKey l by_ n b till = false) : f0_SignWithKey l by_ n b till = zeroData := by unfold f0_SignWithKey; rw [h]; rfl
theorem swk_yes {l : List (Ty.D tKey)} {by_ n : List (List UInt8)} {b : List UInt8} {till : Int} (h : f1_SignWithKey l by_ n b till = true) : f0_SignWithKey l by_ n b till = swkX l by_ n b till := by unfold f0_SignWithKey; rw [h]; rfl
theorem swk_bulk (by_ n : List (List UInt8)) (b : List UInt8) (till : Int) : Ty.bulk tData (swkD by_ n b till) = Ty.bulk (.sl .str) n + (Ty.bulk (.sl .byte) b + Ty.bulk (.sl .str) by_) := by
  show Ty.bulk (.sl .str) n + (Ty.bulk (.sl .byte) b + (Ty.bulk (.sl .str) by_ + (0 + 0))) = _
  omega
theorem rd_Data_mk {w : World} {x : tData.D} {v0 v1 v2 : Value} (h0 : (Ty.sl .str).rd w [v0] x.1) (h1 : (Ty.sl .byte).rd w [v1] x.2.1) (h2 : (Ty.sl .str).rd w [v2] x.2.2.1) (b3 : -9223372036854775808 ≤ x.2.2.2.1 ∧ x.2.2.2.1 ≤ 9223372036854775807) (b4 : -9223372036854775808 ≤ x.2.2.2.2 ∧ x.2.2.2.2 ≤ 9223372036854775807) :
    tData.rd w [v0, v1, v2, .int .i64 x.2.2.2.1, .int .i64 x.2.2.2.2] x :=
  ⟨[v0], [v1, v2, .int .i64 x.2.2.2.1, .int .i64 x.2.2.2.2], rfl, h0, [v1], [v2, .int .i64 x.2.2.2.1, .int .i64 x.2.2.2.2], rfl, h1, [v2], [.int .i64 x.2.2.2.1, .int .i64 x.2.2.2.2], rfl, h2, [_], [_], rfl, ⟨rfl, b3⟩, ⟨rfl, b4⟩⟩
theorem ow_zeroData (w : World) : tData.ow w [.slice none 0 0, .slice none 0 0, .slice none 0 0, .int .i64 0, .int .i64 0] zeroData ([] ++ ([] ++ ([] ++ ([] ++ [])))) :=
  ow_Data_mk (x := zeroData) (rd_ow_nil w .str) (rd_ow_nil w .byte) (rd_ow_nil w .str) (by decide) (by decide)
theorem fr_zero (lo hi : Nat) : FrI lo hi ([] ++ ([] ++ ([] ++ ([] ++ [])))) := FrI.nil lo hi
set_option maxRecDepth 100000 in
set_option maxHeartbeats 4000000 in
theorem C_impl_SignWithKeyB (w : World) (v0 : Value) (l : List (Ty.D tKey)) (cs1 : List Value) (by_ : List (List UInt8)) (cs2 : List Value) (n : List (List UInt8)) (v3 : Value) (b : List UInt8) (till : Int) (h0 : (Ty.sl tKey).rd w [v0] l) (h1 : (Ty.sl .str).rd w cs1 by_) (h2 : (Ty.sl .str).rd w cs2 n) (h3 : (Ty.sl .byte).rd w [v3] b) (s0 : Ty.bulk (.sl tKey) l ≤ 1048576) (s1 : Ty.bulk (.sl .str) by_ ≤ 1048576) (s2 : Ty.bulk (.sl .str) n ≤ 1048576) (s3 : Ty.bulk (.sl .byte) b ≤ 1048576) (i4 : -9223372036854775808 ≤ till ∧ till ≤ 9223372036854775807) :
    Calls Tryz.prog 34 #[v0, .agg cs1.toArray, .agg cs2.toArray, v3, .int .i64 till] w (RetAgg2 w tData (f0_SignWithKey l by_ n b till) (.bool (f1_SignWithKey l by_ n b till))) := by
  obtain ⟨Ak, ck, rfl⟩ := Ty.rd_slv h1
  obtain ⟨An, cn, rfl⟩ := Ty.rd_slv h2
  obtain ⟨Ab, cb, rfl, _, _, _⟩ := Ty.rd_sl h3
  have hsb := secret_bd by_ h0
  have hbk : Ty.bulk tData (swkD by_ n b till) ≤ 4000000 := by rw [swk_bulk]; omega
  have hX : swkX l by_ n b till = f_SignData (f_SecretOf l by_) (swkD by_ n b till) := rfl
  have hF1 : f1_SignWithKey l by_ n b till = (!(decide (f_SecretOf l by_ = 0)) && f_ValidData (swkX l by_ n b till)) := rfl
  have HNO := Lib.hid (fun h => swk_no (l := l) (by_ := by_) (n := n) (b := b) (till := till) h)
  have HYES := Lib.hid (fun h => swk_yes (l := l) (by_ := by_) (n := n) (b := b) (till := till) h)
  generalize f0_SignWithKey l by_ n b till = F0 at HNO HYES ⊢
  generalize f1_SignWithKey l by_ n b till = F1 at hF1 HNO HYES ⊢
  generalize swkX l by_ n b till = X at hX hF1 HYES
  have HX := Lib.hid hX
  have HF1 := Lib.hid hF1
  clear hX hF1
  have hBK : Blk (((w.alloc (.cells #[.slice Ak by_.length ck] 32)).alloc (.cells #[.slice An n.length cn] 32)).alloc (.cells #[.slice none 0 0, .slice none 0 0, .slice none 0 0, .int .i64 0, .int .i64 0] 34)) (w.heap.size) 32 #[.slice Ak by_.length ck] := ((Blk.new w 32 #[.slice Ak by_.length ck]).alloc _).alloc _
  have hBN : Blk (((w.alloc (.cells #[.slice Ak by_.length ck] 32)).alloc (.cells #[.slice An n.length cn] 32)).alloc (.cells #[.slice none 0 0, .slice none 0 0, .slice none 0 0, .int .i64 0, .int .i64 0] 34)) (w.heap.size + 1) 32 #[.slice An n.length cn] := (show Blk ((w.alloc (.cells #[.slice Ak by_.length ck] 32)).alloc (.cells #[.slice An n.length cn] 32)) (w.heap.size + 1) 32 #[.slice An n.length cn] from by have := Blk.new (w.alloc (.cells #[.slice Ak by_.length ck] 32)) 32 #[.slice An n.length cn]; rwa [World.size_alloc] at this).alloc _
  have hBR : Blk (((w.alloc (.cells #[.slice Ak by_.length ck] 32)).alloc (.cells #[.slice An n.length cn] 32)).alloc (.cells #[.slice none 0 0, .slice none 0 0, .slice none 0 0, .int .i64 0, .int .i64 0] 34)) (w.heap.size + 1 + 1) 34 #[.slice none 0 0, .slice none 0 0, .slice none 0 0, .int .i64 0, .int .i64 0] := by have := Blk.new ((w.alloc (.cells #[.slice Ak by_.length ck] 32)).alloc (.cells #[.slice An n.length cn] 32)) 34 #[.slice none 0 0, .slice none 0 0, .slice none 0 0, .int .i64 0, .int .i64 0]; rwa [World.size_alloc, World.size_alloc] at this
  have hvb : Below w.heap.size w (((w.alloc (.cells #[.slice Ak by_.length ck] 32)).alloc (.cells #[.slice An n.length cn] 32)).alloc (.cells #[.slice none 0 0, .slice none 0 0, .slice none 0 0, .int .i64 0, .int .i64 0] 34)) := (by repeat' (first | (with_reducible exact Below.refl _ _) | (with_reducible assumption) | (with_reducible refine bel_set ?_ (by (try dsimp only); omega) _) | (with_reducible refine bel_alloc ?_ _) | (with_reducible refine bel_drewN ?_ _) | (with_reducible refine bel_drew ?_)))
  have zb : w.heap.size + 1 + 1 < (((w.alloc (.cells #[.slice Ak by_.length ck] 32)).alloc (.cells #[.slice An n.length cn] 32)).alloc (.cells #[.slice none 0 0, .slice none 0 0, .slice none 0 0, .int .i64 0, .int .i64 0] 34)).heap.size := by simp only [World.size_alloc]; omega
  go_enter Tryz.func34, Tryz.ntmps34
  go_wp2_with fail
  generalize (((w.alloc (.cells #[.slice Ak by_.length ck] 32)).alloc (.cells #[.slice An n.length cn] 32)).alloc (.cells #[.slice none 0 0, .slice none 0 0, .slice none 0 0, .int .i64 0, .int .i64 0] 34)) = WX at hBK hBN hBR hvb zb ⊢
  have HB : Hid (∀ W, Below WX.heap.size WX W → Blk W (w.heap.size) 32 #[.slice Ak by_.length ck] ∧ Blk W (w.heap.size + 1) 32 #[.slice An n.length cn] ∧ Blk W (w.heap.size + 1 + 1) 34 #[.slice none 0 0, .slice none 0 0, .slice none 0 0, .int .i64 0, .int .i64 0]) := fun W hW => ⟨hBK.below hW (by omega), hBN.below hW (by omega), hBR.below hW zb⟩
  clear hBK hBN hBR
  refine (C_impl_SecretOf _ _ l _ by_ (Ty.rd_below hvb h0) (Ty.rd_below hvb h1) s0 s1).mono ?_
  rintro e w1 ⟨rfl, hb1⟩
  have hw1 : Below w.heap.size w w1 := bel_trans hvb hb1
  obtain ⟨hK1, hN1, hR1⟩ := HB.out _ (hb1)
  have kK_1_0 : w1.cell? ⟨w.heap.size, 0, none⟩ = some (.slice Ak by_.length ck) := hK1.cell 0
  have zK_1 : w.heap.size < w1.heap.size := hK1.lt
  have kN_1_0 : w1.cell? ⟨w.heap.size + 1, 0, none⟩ = some (.slice An n.length cn) := hN1.cell 0
  have zN_1 : w.heap.size + 1 < w1.heap.size := hN1.lt
  go_wp2_with fail
  refine (C_impl_SignDataB _ _ _ (swkD by_ n b till) (rd_Data_mk (x := swkD by_ n b till) (Ty.rd_below hw1 h2) (Ty.rd_below hw1 h3) (Ty.rd_below hw1 h1) i4 (by show _ ≤ (0 : Int) ∧ (0 : Int) ≤ _; decide)) hsb hbk).mono ?_
  rw [← HX.out]
  rintro e w2 ⟨csx, fpx, rfl, howx, hfrx, hb2⟩
  obtain ⟨Ad0, cd0, Ad1, cd1, Ad2, cd2, rfl⟩ := ow_Data howx
  have hx2 : Below WX.heap.size WX w2 := bel_trans hb1 hb2
  have hw2 : Below w.heap.size w w2 := bel_trans hvb hx2
  have hs1 := hb1.size
  have hs2 := hb2.size
  clear kK_1_0 kN_1_0
  obtain ⟨hK2, hN2, hR2⟩ := HB.out _ (hx2)
  have kR_2_0 : w2.cell? ⟨w.heap.size + 1 + 1, 0, none⟩ = some (.slice none 0 0) := hR2.cell 0
  have fR_2_0 : w2.frozen? ⟨w.heap.size + 1 + 1, 0, none⟩ = false := hR2.frozen 0
  have kR_2_1 : w2.cell? ⟨w.heap.size + 1 + 1, 1, none⟩ = some (.slice none 0 0) := hR2.cell 1
  have fR_2_1 : w2.frozen? ⟨w.heap.size + 1 + 1, 1, none⟩ = false := hR2.frozen 1
  have kR_2_2 : w2.cell? ⟨w.heap.size + 1 + 1, 2, none⟩ = some (.slice none 0 0) := hR2.cell 2
  have fR_2_2 : w2.frozen? ⟨w.heap.size + 1 + 1, 2, none⟩ = false := hR2.frozen 2
  have kR_2_3 : w2.cell? ⟨w.heap.size + 1 + 1, 3, none⟩ = some (.int .i64 0) := hR2.cell 3
  have fR_2_3 : w2.frozen? ⟨w.heap.size + 1 + 1, 3, none⟩ = false := hR2.frozen 3
  have kR_2_4 : w2.cell? ⟨w.heap.size + 1 + 1, 4, none⟩ = some (.int .i64 0) := hR2.cell 4
  have fR_2_4 : w2.frozen? ⟨w.heap.size + 1 + 1, 4, none⟩ = false := hR2.frozen 4
  have zR_2 : w.heap.size + 1 + 1 < w2.heap.size := hR2.lt
  by_cases hz : f_SecretOf l by_ = 0
  · have q0 : (f_SecretOf l by_ == 0) = true := by simp [hz]
    have HFF : Hid (F1 = false) := by show _ = _; rw [HF1.out, hz]; rfl
    clear hz
    go_wp2
    refine bodyPost_ret (v := .tuple #[.agg #[.slice none 0 0, .slice none 0 0, .slice none 0 0, .int .i64 0, .int .i64 0], .bool false]) (by simp [results, Tryz.results34, go_sem, kR_2_0, fR_2_0, kR_2_1, fR_2_1, kR_2_2, fR_2_2, kR_2_3, fR_2_3, kR_2_4, fR_2_4, zR_2]) rfl ?_
    rw [HNO.out HFF.out, HFF.out]
    exact ⟨_, _, rfl, ow_zeroData _, fr_zero _ _, (by repeat' (first | (with_reducible exact Below.refl _ _) | (with_reducible assumption) | (with_reducible refine bel_set ?_ (by (try dsimp only); omega) _) | (with_reducible refine bel_alloc ?_ _) | (with_reducible refine bel_drewN ?_ _) | (with_reducible refine bel_drew ?_)))⟩
  have q0 : (f_SecretOf l by_ == 0) = false := by simp [hz]
  have HZ : Hid (decide (f_SecretOf l by_ = 0) = false) := by show _ = _; simp [hz]
  clear hz
  go_wp2_with fail
  refine (C_impl_ValidDataG _ _ X (Ty.rd_below (by repeat' (first | (with_reducible exact Below.refl _ _) | (with_reducible assumption) | (with_reducible refine bel_set ?_ (by (try dsimp only); omega) _) | (with_reducible refine bel_alloc ?_ _) | (with_reducible refine bel_drewN ?_ _) | (with_reducible refine bel_drew ?_))) (Ty.ow_rd howx))).mono ?_
  rintro e w3 ⟨rfl, hb3⟩
  have hz3 := hb3.size
  simp only [World.size_alloc] at hz3
  have hx3 : Below WX.heap.size WX w3 := bel_trans (bel_alloc hx2 _) hb3
  have hw3 : Below w.heap.size w w3 := bel_trans hvb hx3
  clear kR_2_0 fR_2_0 kR_2_1 fR_2_1 kR_2_2 fR_2_2 kR_2_3 fR_2_3 kR_2_4 fR_2_4
  obtain ⟨hK3, hN3, hR3⟩ := HB.out _ (hx3)
  have hX3 : Blk w3 w2.heap.size 34 #[.slice Ad0 (List.length X.1) cd0, .slice Ad1 (List.length X.2.1) cd1, .slice Ad2 (List.length X.2.2.1) cd2, .int .i64 X.2.2.2.1, .int .i64 X.2.2.2.2] := (Blk.new w2 34 #[.slice Ad0 (List.length X.1) cd0, .slice Ad1 (List.length X.2.1) cd1, .slice Ad2 (List.length X.2.2.1) cd2, .int .i64 X.2.2.2.1, .int .i64 X.2.2.2.2]).below hb3 (by simp only [World.size_alloc]; omega)
  have kR_3_0 : w3.cell? ⟨w.heap.size + 1 + 1, 0, none⟩ = some (.slice none 0 0) := hR3.cell 0
  have fR_3_0 : w3.frozen? ⟨w.heap.size + 1 + 1, 0, none⟩ = false := hR3.frozen 0
  have kR_3_1 : w3.cell? ⟨w.heap.size + 1 + 1, 1, none⟩ = some (.slice none 0 0) := hR3.cell 1
  have fR_3_1 : w3.frozen? ⟨w.heap.size + 1 + 1, 1, none⟩ = false := hR3.frozen 1
  have kR_3_2 : w3.cell? ⟨w.heap.size + 1 + 1, 2, none⟩ = some (.slice none 0 0) := hR3.cell 2
  have fR_3_2 : w3.frozen? ⟨w.heap.size + 1 + 1, 2, none⟩ = false := hR3.frozen 2
  have kR_3_3 : w3.cell? ⟨w.heap.size + 1 + 1, 3, none⟩ = some (.int .i64 0) := hR3.cell 3
  have fR_3_3 : w3.frozen? ⟨w.heap.size + 1 + 1, 3, none⟩ = false := hR3.frozen 3
  have kR_3_4 : w3.cell? ⟨w.heap.size + 1 + 1, 4, none⟩ = some (.int .i64 0) := hR3.cell 4
  have fR_3_4 : w3.frozen? ⟨w.heap.size + 1 + 1, 4, none⟩ = false := hR3.frozen 4
  have zR_3 : w.heap.size + 1 + 1 < w3.heap.size := hR3.lt
  have kX_3_0 : w3.cell? ⟨w2.heap.size, 0, none⟩ = some (.slice Ad0 (List.length X.1) cd0) := hX3.cell 0
  have fX_3_0 : w3.frozen? ⟨w2.heap.size, 0, none⟩ = false := hX3.frozen 0
  have kX_3_1 : w3.cell? ⟨w2.heap.size, 1, none⟩ = some (.slice Ad1 (List.length X.2.1) cd1) := hX3.cell 1
  have fX_3_1 : w3.frozen? ⟨w2.heap.size, 1, none⟩ = false := hX3.frozen 1
  have kX_3_2 : w3.cell? ⟨w2.heap.size, 2, none⟩ = some (.slice Ad2 (List.length X.2.2.1) cd2) := hX3.cell 2
  have fX_3_2 : w3.frozen? ⟨w2.heap.size, 2, none⟩ = false := hX3.frozen 2
  have kX_3_3 : w3.cell? ⟨w2.heap.size, 3, none⟩ = some (.int .i64 X.2.2.2.1) := hX3.cell 3
  have fX_3_3 : w3.frozen? ⟨w2.heap.size, 3, none⟩ = false := hX3.frozen 3
  have kX_3_4 : w3.cell? ⟨w2.heap.size, 4, none⟩ = some (.int .i64 X.2.2.2.2) := hX3.cell 4
  have fX_3_4 : w3.frozen? ⟨w2.heap.size, 4, none⟩ = false := hX3.frozen 4
  have zX_3 : w2.heap.size < w3.heap.size := hX3.lt
  cases q1 : f_ValidData X
  · have HFF : Hid (F1 = false) := by show _ = _; rw [HF1.out, HZ.out, q1]; rfl
    clear q1
    go_wp2
    refine bodyPost_ret (v := .tuple #[.agg #[.slice none 0 0, .slice none 0 0, .slice none 0 0, .int .i64 0, .int .i64 0], .bool false]) (by simp [results, Tryz.results34, go_sem, kR_3_0, fR_3_0, kR_3_1, fR_3_1, kR_3_2, fR_3_2, kR_3_3, fR_3_3, kR_3_4, fR_3_4, kX_3_0, fX_3_0, kX_3_1, fX_3_1, kX_3_2, fX_3_2, kX_3_3, fX_3_3, kX_3_4, fX_3_4, zR_3, zX_3]) rfl ?_
    rw [HNO.out HFF.out, HFF.out]
    exact ⟨_, _, rfl, ow_zeroData _, fr_zero _ _, (by repeat' (first | (with_reducible exact Below.refl _ _) | (with_reducible assumption) | (with_reducible refine bel_set ?_ (by (try dsimp only); omega) _) | (with_reducible refine bel_alloc ?_ _) | (with_reducible refine bel_drewN ?_ _) | (with_reducible refine bel_drew ?_)))⟩
  · have HFF : Hid (F1 = true) := by show _ = _; rw [HF1.out, HZ.out, q1]; rfl
    clear q1
    go_wp2
    refine bodyPost_ret (v := .tuple #[.agg #[.slice Ad0 (List.length X.1) cd0, .slice Ad1 (List.length X.2.1) cd1, .slice Ad2 (List.length X.2.2.1) cd2, .int .i64 X.2.2.2.1, .int .i64 X.2.2.2.2], .bool true]) (by simp [results, Tryz.results34, go_sem, kR_3_0, fR_3_0, kR_3_1, fR_3_1, kR_3_2, fR_3_2, kR_3_3, fR_3_3, kR_3_4, fR_3_4, kX_3_0, fX_3_0, kX_3_1, fX_3_1, kX_3_2, fX_3_2, kX_3_3, fX_3_3, kX_3_4, fX_3_4, zR_3, zX_3]) rfl ?_
    rw [HYES.out HFF.out, HFF.out]
    exact ⟨_, fpx, rfl, Ty.ow_keep (by intro b hb'; have hb'' := (hfrx).2 b hb'; (try simp only [World.size_alloc, World.size_setCell, size_drewN, World.size_drew] at hb''); repeat (first | (with_reducible rfl) | (rw [Below.heap_setCell _ _ _ _ (by (try dsimp only); omega)]) | (rw [Below.heap_alloc _ _ _ (by (try simp only [World.size_alloc, World.size_setCell]); omega)]) | (rw [hb3.block _ (by (try simp only [World.size_alloc, World.size_setCell, size_drewN, World.size_drew]); omega)]))) howx, hfrx.mono (by have := hw1.size; omega) (by (try simp only [World.size_alloc, World.size_setCell, size_drewN, World.size_drew]); omega), (by repeat' (first | (with_reducible exact Below.refl _ _) | (with_reducible assumption) | (with_reducible refine bel_set ?_ (by (try dsimp only); omega) _) | (with_reducible refine bel_alloc ?_ _) | (with_reducible refine bel_drewN ?_ _) | (with_reducible refine bel_drew ?_)))⟩
set_option maxRecDepth 100000 in
set_option maxHeartbeats 4000000 in
theorem C_spec_SignWithKeyB (w : World) (v0 : Value) (l : List (Ty.D tKey)) (cs1 : List Value) (by_ : List (List UInt8)) (cs2 : List Value) (n : List (List UInt8)) (v3 : Value) (b : List UInt8) (till : Int) (h0 : (Ty.sl tKey).rd w [v0] l) (h1 : (Ty.sl .str).rd w cs1 by_) (h2 : (Ty.sl .str).rd w cs2 n) (h3 : (Ty.sl .byte).rd w [v3] b) (s0 : Ty.bulk (.sl tKey) l ≤ 1048576) (s1 : Ty.bulk (.sl .str) by_ ≤ 1048576) (s2 : Ty.bulk (.sl .str) n ≤ 1048576) (s3 : Ty.bulk (.sl .byte) b ≤ 1048576) (i4 : -9223372036854775808 ≤ till ∧ till ≤ 9223372036854775807) :
    Calls Tryz.prog 36 #[v0, .agg cs1.toArray, .agg cs2.toArray, v3, .int .i64 till] w (RetAgg2 w tData (f0_SignWithKey l by_ n b till) (.bool (f1_SignWithKey l by_ n b till))) := by
  obtain ⟨Ak, ck, rfl⟩ := Ty.rd_slv h1
  obtain ⟨An, cn, rfl⟩ := Ty.rd_slv h2
  obtain ⟨Ab, cb, rfl, _, _, _⟩ := Ty.rd_sl h3
  have hsb := secret_bd by_ h0
  have hbk : Ty.bulk tData (swkD by_ n b till) ≤ 4000000 := by rw [swk_bulk]; omega
  have hX : swkX l by_ n b till = f_SignData (f_SecretOf l by_) (swkD by_ n b till) := rfl
  have hF1 : f1_SignWithKey l by_ n b till = (!(decide (f_SecretOf l by_ = 0)) && f_ValidData (swkX l by_ n b till)) := rfl
  have HNO := Lib.hid (fun h => swk_no (l := l) (by_ := by_) (n := n) (b := b) (till := till) h)
  have HYES := Lib.hid (fun h => swk_yes (l := l) (by_ := by_) (n := n) (b := b) (till := till) h)
  generalize f0_SignWithKey l by_ n b till = F0 at HNO HYES ⊢
  generalize f1_SignWithKey l by_ n b till = F1 at hF1 HNO HYES ⊢
  generalize swkX l by_ n b till = X at hX hF1 HYES
  have HX := Lib.hid hX
  have HF1 := Lib.hid hF1
  clear hX hF1
  have hBK : Blk (((w.alloc (.cells #[.slice Ak by_.length ck] 32)).alloc (.cells #[.slice An n.length cn] 32)).alloc (.cells #[.slice none 0 0, .slice none 0 0, .slice none 0 0, .int .i64 0, .int .i64 0] 34)) (w.heap.size) 32 #[.slice Ak by_.length ck] := ((Blk.new w 32 #[.slice Ak by_.length ck]).alloc _).alloc _
  have hBN : Blk (((w.alloc (.cells #[.slice Ak by_.length ck] 32)).alloc (.cells #[.slice An n.length cn] 32)).alloc (.cells #[.slice none 0 0, .slice none 0 0, .slice none 0 0, .int .i64 0, .int .i64 0] 34)) (w.heap.size + 1) 32 #[.slice An n.length cn] := (show Blk ((w.alloc (.cells #[.slice Ak by_.length ck] 32)).alloc (.cells #[.slice An n.length cn] 32)) (w.heap.size + 1) 32 #[.slice An n.length cn] from by have := Blk.new (w.alloc (.cells #[.slice Ak by_.length ck] 32)) 32 #[.slice An n.length cn]; rwa [World.size_alloc] at this).alloc _
  have hBR : Blk (((w.alloc (.cells #[.slice Ak by_.length ck] 32)).alloc (.cells #[.slice An n.length cn] 32)).alloc (.cells #[.slice none 0 0, .slice none 0 0, .slice none 0 0, .int .i64 0, .int .i64 0] 34)) (w.heap.size + 1 + 1) 34 #[.slice none 0 0, .slice none 0 0, .slice none 0 0, .int .i64 0, .int .i64 0] := by have := Blk.new ((w.alloc (.cells #[.slice Ak by_.length ck] 32)).alloc (.cells #[.slice An n.length cn] 32)) 34 #[.slice none 0 0, .slice none 0 0, .slice none 0 0, .int .i64 0, .int .i64 0]; rwa [World.size_alloc, World.size_alloc] at this
  have hvb : Below w.heap.size w (((w.alloc (.cells #[.slice Ak by_.length ck] 32)).alloc (.cells #[.slice An n.length cn] 32)).alloc (.cells #[.slice none 0 0, .slice none 0 0, .slice none 0 0, .int .i64 0, .int .i64 0] 34)) := (by repeat' (first | (with_reducible exact Below.refl _ _) | (with_reducible assumption) | (with_reducible refine bel_set ?_ (by (try dsimp only); omega) _) | (with_reducible refine bel_alloc ?_ _) | (with_reducible refine bel_drewN ?_ _) | (with_reducible refine bel_drew ?_)))
  have zb : w.heap.size + 1 + 1 < (((w.alloc (.cells #[.slice Ak by_.length ck] 32)).alloc (.cells #[.slice An n.length cn] 32)).alloc (.cells #[.slice none 0 0, .slice none 0 0, .slice none 0 0, .int .i64 0, .int .i64 0] 34)).heap.size := by simp only [World.size_alloc]; omega
  go_enter Tryz.func36, Tryz.ntmps36
  go_wp2_with fail
  generalize (((w.alloc (.cells #[.slice Ak by_.length ck] 32)).alloc (.cells #[.slice An n.length cn] 32)).alloc (.cells #[.slice none 0 0, .slice none 0 0, .slice none 0 0, .int .i64 0, .int .i64 0] 34)) = WX at hBK hBN hBR hvb zb ⊢
  have HB : Hid (∀ W, Below WX.heap.size WX W → Blk W (w.heap.size) 32 #[.slice Ak by_.length ck] ∧ Blk W (w.heap.size + 1) 32 #[.slice An n.length cn] ∧ Blk W (w.heap.size + 1 + 1) 34 #[.slice none 0 0, .slice none 0 0, .slice none 0 0, .int .i64 0, .int .i64 0]) := fun W hW => ⟨hBK.below hW (by omega), hBN.below hW (by omega), hBR.below hW zb⟩
  clear hBK hBN hBR
  have HS : Hid (∀ W, Below WX.heap.size WX W → Below WX.heap.size WX W ∧ W.cell? ⟨w.heap.size, 0, none⟩ = some (.slice Ak by_.length ck) ∧ W.cell? ⟨w.heap.size + 1, 0, none⟩ = some (.slice An n.length cn)) := fun W hW => ⟨hW, (HB.out W hW).1.cell 0, (HB.out W hW).2.1.cell 0⟩
  have hv0 : Below WX.heap.size WX WX := Below.refl _ _
  have zb1 : w.heap.size < WX.heap.size := by omega
  have zb2 : w.heap.size + 1 < WX.heap.size := by omega
  refine wp_region_noPanic ?_
  refine wp_region_held_drew (S := (fun W => Below WX.heap.size WX W ∧ W.cell? ⟨w.heap.size, 0, none⟩ = some (.slice Ak by_.length ck) ∧ W.cell? ⟨w.heap.size + 1, 0, none⟩ = some (.slice An n.length cn))) (by kernel_rfl) ?_ (fun hHeld => ?_)
  · exact HS.out _ (by (repeat' (first | (with_reducible exact Below.refl _ _) | (with_reducible assumption) | (with_reducible refine bel_set ?_ (by (try dsimp only); omega) _) | (with_reducible refine bel_alloc ?_ _) | (with_reducible refine bel_drewN ?_ _) | (with_reducible refine bel_drew ?_) | (with_reducible refine bel_trans ?_ (by assumption)))); done)
  refine tk 0 (opN rfl) (by kernel_rfl) (by rfl) (by (intro w hSw; (try dsimp only at hSw); go_simp; first | done | with_reducible rfl)) (by assumption) ?_
  try simp only [Act.put, List.setIfInBounds_toArray, List.set_cons_zero, List.set_cons_succ]
  refine tk 1 (opN rfl) (by kernel_rfl) (by rfl) (by (intro w hSw; (try dsimp only at hSw); go_simp; first | done | with_reducible rfl)) (by assumption) ?_
  try simp only [Act.put, List.setIfInBounds_toArray, List.set_cons_zero, List.set_cons_succ]
  refine tk 3 (opN rfl) (by kernel_rfl) (by rfl) (by (intro w hSw; (try dsimp only at hSw); go_simp; first | done | with_reducible rfl)) (by assumption) ?_
  try simp only [Act.put, List.setIfInBounds_toArray, List.set_cons_zero, List.set_cons_succ]
  refine tk 4 (opN rfl) (by kernel_rfl) (by rfl) (by (intro w hSw; (try dsimp only at hSw); go_simp; first | done | with_reducible rfl)) (by assumption) ?_
  try simp only [Act.put, List.setIfInBounds_toArray, List.set_cons_zero, List.set_cons_succ]
  refine tk 5 (opN rfl) (by kernel_rfl) (by rfl) (by (intro w hSw; (try dsimp only at hSw); go_simp; first | done | with_reducible rfl)) (by assumption) ?_
  try simp only [Act.put, List.setIfInBounds_toArray, List.set_cons_zero, List.set_cons_succ]
  refine tk 6 (opN rfl) (by kernel_rfl) (by rfl) (by (intro w hSw; (try dsimp only at hSw); go_simp; first | done | with_reducible rfl)) (by assumption) ?_
  try simp only [Act.put, List.setIfInBounds_toArray, List.set_cons_zero, List.set_cons_succ]
  refine tk 7 (opN rfl) (by kernel_rfl) (by rfl) (by (intro w hSw; (try dsimp only at hSw); go_simp; first | done | with_reducible rfl)) (by assumption) ?_
  try simp only [Act.put, List.setIfInBounds_toArray, List.set_cons_zero, List.set_cons_succ]
  refine wpAnyH_ready (rs := [2, 9]) (by kernel_rfl) (by simp) ?_
  refine AllReadyH.cons (opN rfl) (fun K hK => ?_) (AllReadyH.cons (opN rfl) (fun K hK => ?_) AllReadyH.nil)
  · go_simp
    go_at_call 48
    refine (C_spec_SecretOf _ _ l _ by_ (Ty.rd_below (by (repeat' (first | (with_reducible exact Below.refl _ _) | (with_reducible assumption) | (with_reducible refine bel_set ?_ (by (try dsimp only); omega) _) | (with_reducible refine bel_alloc ?_ _) | (with_reducible refine bel_drewN ?_ _) | (with_reducible refine bel_drew ?_) | (with_reducible refine bel_trans ?_ (by assumption)))); done) (Ty.rd_below hvb h0)) (Ty.rd_below (by (repeat' (first | (with_reducible exact Below.refl _ _) | (with_reducible assumption) | (with_reducible refine bel_set ?_ (by (try dsimp only); omega) _) | (with_reducible refine bel_alloc ?_ _) | (with_reducible refine bel_drewN ?_ _) | (with_reducible refine bel_drew ?_) | (with_reducible refine bel_trans ?_ (by assumption)))); done) (Ty.rd_below hvb h1)) s0 s1).mono ?_
    rintro e w1 ⟨rfl, hb1⟩
    have hx1 : Below WX.heap.size WX w1 := (by (repeat' (first | (with_reducible exact Below.refl _ _) | (with_reducible assumption) | (with_reducible refine bel_set ?_ (by (try dsimp only); omega) _) | (with_reducible refine bel_alloc ?_ _) | (with_reducible refine bel_drewN ?_ _) | (with_reducible refine bel_drew ?_) | (with_reducible refine bel_trans ?_ (by assumption)))); done)
    refine hK.out _ _ ?_ (fun hHeld => ?_)
    · (try dsimp only)
      exact HS.out _ (by (repeat' (first | (with_reducible exact Below.refl _ _) | (with_reducible assumption) | (with_reducible refine bel_set ?_ (by (try dsimp only); omega) _) | (with_reducible refine bel_alloc ?_ _) | (with_reducible refine bel_drewN ?_ _) | (with_reducible refine bel_drew ?_) | (with_reducible refine bel_trans ?_ (by assumption)))); done)
    clear hK K
    try simp only [Act.put, List.setIfInBounds_toArray, List.set_cons_zero, List.set_cons_succ]
    refine wpAnyH_ready (rs := [8, 9]) (by kernel_rfl) (by simp) ?_
    refine AllReadyH.cons (opN rfl) (fun K hK => ?_) (AllReadyH.cons (opN rfl) (fun K hK => ?_) AllReadyH.nil)
    · go_simp
      go_at_call 96
      refine (C_spec_SignDataB _ _ _ (swkD by_ n b till) (rd_Data_mk (x := swkD by_ n b till) (Ty.rd_below (by (repeat' (first | (with_reducible exact Below.refl _ _) | (with_reducible assumption) | (with_reducible refine bel_set ?_ (by (try dsimp only); omega) _) | (with_reducible refine bel_alloc ?_ _) | (with_reducible refine bel_drewN ?_ _) | (with_reducible refine bel_drew ?_) | (with_reducible refine bel_trans ?_ (by assumption)))); done) (Ty.rd_below hvb h2)) (Ty.rd_below (by (repeat' (first | (with_reducible exact Below.refl _ _) | (with_reducible assumption) | (with_reducible refine bel_set ?_ (by (try dsimp only); omega) _) | (with_reducible refine bel_alloc ?_ _) | (with_reducible refine bel_drewN ?_ _) | (with_reducible refine bel_drew ?_) | (with_reducible refine bel_trans ?_ (by assumption)))); done) (Ty.rd_below hvb h3)) (Ty.rd_below (by (repeat' (first | (with_reducible exact Below.refl _ _) | (with_reducible assumption) | (with_reducible refine bel_set ?_ (by (try dsimp only); omega) _) | (with_reducible refine bel_alloc ?_ _) | (with_reducible refine bel_drewN ?_ _) | (with_reducible refine bel_drew ?_) | (with_reducible refine bel_trans ?_ (by assumption)))); done) (Ty.rd_below hvb h1)) i4 (by show _ ≤ (0 : Int) ∧ (0 : Int) ≤ _; decide)) hsb hbk).mono ?_
      rw [← HX.out]
      rintro e w2 ⟨csx, fpx, rfl, howx, hfrx, hb2⟩
      obtain ⟨Ad0, cd0, Ad1, cd1, Ad2, cd2, rfl⟩ := ow_Data howx
      have hx2 : Below WX.heap.size WX w2 := (by (repeat' (first | (with_reducible exact Below.refl _ _) | (with_reducible assumption) | (with_reducible refine bel_set ?_ (by (try dsimp only); omega) _) | (with_reducible refine bel_alloc ?_ _) | (with_reducible refine bel_drewN ?_ _) | (with_reducible refine bel_drew ?_) | (with_reducible refine bel_trans ?_ (by assumption)))); done)
      refine hK.out _ _ ?_ (fun hHeld => ?_)
      · (try dsimp only)
        exact HS.out _ (by (repeat' (first | (with_reducible exact Below.refl _ _) | (with_reducible assumption) | (with_reducible refine bel_set ?_ (by (try dsimp only); omega) _) | (with_reducible refine bel_alloc ?_ _) | (with_reducible refine bel_drewN ?_ _) | (with_reducible refine bel_drew ?_) | (with_reducible refine bel_trans ?_ (by assumption)))); done)
      clear hK K
      try simp only [Act.put, List.setIfInBounds_toArray, List.set_cons_zero, List.set_cons_succ]
      have hzs1 := hb1.size
      have hzs2 := hb2.size
      try simp only [World.size_alloc, World.size_drew, size_drewN] at hzs1 hzs2
      refine wpAnyH_ready (rs := [9]) (by kernel_rfl) (by simp) ?_
      refine (AllReadyH.cons (opN rfl) (fun K hK => ?_) AllReadyH.nil)
      go_simp
      refine hK.out _ _ ?_ (fun hHeld => ?_)
      · (try dsimp only)
        exact HS.out _ (by (repeat' (first | (with_reducible exact Below.refl _ _) | (with_reducible assumption) | (with_reducible refine bel_set ?_ (by (try dsimp only); omega) _) | (with_reducible refine bel_alloc ?_ _) | (with_reducible refine bel_drewN ?_ _) | (with_reducible refine bel_drew ?_) | (with_reducible refine bel_trans ?_ (by assumption)))); done)
      clear hK K
      try simp only [Act.put, List.setIfInBounds_toArray, List.set_cons_zero, List.set_cons_succ]
      refine wpAnyH_ready (rs := [10]) (by kernel_rfl) (by simp) ?_
      refine (AllReadyH.cons (opN rfl) (fun K hK => ?_) AllReadyH.nil)
      go_simp
      refine hK.out _ _ ?_ (fun hHeld => ?_)
      · (try dsimp only)
        exact HS.out _ (by (repeat' (first | (with_reducible exact Below.refl _ _) | (with_reducible assumption) | (with_reducible refine bel_set ?_ (by (try dsimp only); omega) _) | (with_reducible refine bel_alloc ?_ _) | (with_reducible refine bel_drewN ?_ _) | (with_reducible refine bel_drew ?_) | (with_reducible refine bel_trans ?_ (by assumption)))); done)
      clear hK K
      try simp only [Act.put, List.setIfInBounds_toArray, List.set_cons_zero, List.set_cons_succ]
      refine wpAnyH_done (by kernel_rfl) ?_ _
      refine NoPanic.normal ?_
      go_wp2_with fail
      refine (C_spec_SecretOf _ _ l _ by_ (Ty.rd_below (by (repeat' (first | (with_reducible exact Below.refl _ _) | (with_reducible assumption) | (with_reducible refine bel_set ?_ (by (try dsimp only); omega) _) | (with_reducible refine bel_alloc ?_ _) | (with_reducible refine bel_drewN ?_ _) | (with_reducible refine bel_drew ?_) | (with_reducible refine bel_trans ?_ (by assumption)))); done) (Ty.rd_below hvb h0)) (Ty.rd_below (by (repeat' (first | (with_reducible exact Below.refl _ _) | (with_reducible assumption) | (with_reducible refine bel_set ?_ (by (try dsimp only); omega) _) | (with_reducible refine bel_alloc ?_ _) | (with_reducible refine bel_drewN ?_ _) | (with_reducible refine bel_drew ?_) | (with_reducible refine bel_trans ?_ (by assumption)))); done) (Ty.rd_below hvb h1)) s0 s1).mono ?_
      rintro e w4 ⟨rfl, hb4⟩
      have hz4 := hb4.size
      try simp only [World.size_alloc, World.size_setCell, World.size_drew, size_drewN] at hz4
      have hx4 : Below WX.heap.size WX w4 := (by (repeat' (first | (with_reducible exact Below.refl _ _) | (with_reducible assumption) | (with_reducible refine bel_set ?_ (by (try dsimp only); omega) _) | (with_reducible refine bel_alloc ?_ _) | (with_reducible refine bel_drewN ?_ _) | (with_reducible refine bel_drew ?_) | (with_reducible refine bel_trans ?_ (by assumption)))); done)
      have hw4 : Below w.heap.size w w4 := bel_trans hvb hx4
      have hX4 : Blk w4 (w2.heap.size) 34 #[.slice Ad0 (List.length X.1) cd0, .slice Ad1 (List.length X.2.1) cd1, .slice Ad2 (List.length X.2.2.1) cd2, .int .i64 X.2.2.2.1, .int .i64 X.2.2.2.2] := by
        refine Blk.below (w := _) (B := _) ?_ hb4 (by simp only [World.size_alloc, World.size_setCell, World.size_drew, size_drewN]; omega)
        exact Blk.new _ _ _
      obtain ⟨hK4, hN4, hR4⟩ := HB.out _ (hx4)
      have kR_4_0 : w4.cell? ⟨w.heap.size + 1 + 1, 0, none⟩ = some (.slice none 0 0) := hR4.cell 0
      have fR_4_0 : w4.frozen? ⟨w.heap.size + 1 + 1, 0, none⟩ = false := hR4.frozen 0
      have kR_4_1 : w4.cell? ⟨w.heap.size + 1 + 1, 1, none⟩ = some (.slice none 0 0) := hR4.cell 1
      have fR_4_1 : w4.frozen? ⟨w.heap.size + 1 + 1, 1, none⟩ = false := hR4.frozen 1
      have kR_4_2 : w4.cell? ⟨w.heap.size + 1 + 1, 2, none⟩ = some (.slice none 0 0) := hR4.cell 2
      have fR_4_2 : w4.frozen? ⟨w.heap.size + 1 + 1, 2, none⟩ = false := hR4.frozen 2
      have kR_4_3 : w4.cell? ⟨w.heap.size + 1 + 1, 3, none⟩ = some (.int .i64 0) := hR4.cell 3
      have fR_4_3 : w4.frozen? ⟨w.heap.size + 1 + 1, 3, none⟩ = false := hR4.frozen 3
      have kR_4_4 : w4.cell? ⟨w.heap.size + 1 + 1, 4, none⟩ = some (.int .i64 0) := hR4.cell 4
      have fR_4_4 : w4.frozen? ⟨w.heap.size + 1 + 1, 4, none⟩ = false := hR4.frozen 4
      have zR_4 : w.heap.size + 1 + 1 < w4.heap.size := hR4.lt
      have kX_4_0 : w4.cell? ⟨w2.heap.size, 0, none⟩ = some (.slice Ad0 (List.length X.1) cd0) := hX4.cell 0
      have fX_4_0 : w4.frozen? ⟨w2.heap.size, 0, none⟩ = false := hX4.frozen 0
      have kX_4_1 : w4.cell? ⟨w2.heap.size, 1, none⟩ = some (.slice Ad1 (List.length X.2.1) cd1) := hX4.cell 1
      have fX_4_1 : w4.frozen? ⟨w2.heap.size, 1, none⟩ = false := hX4.frozen 1
      have kX_4_2 : w4.cell? ⟨w2.heap.size, 2, none⟩ = some (.slice Ad2 (List.length X.2.2.1) cd2) := hX4.cell 2
      have fX_4_2 : w4.frozen? ⟨w2.heap.size, 2, none⟩ = false := hX4.frozen 2
      have kX_4_3 : w4.cell? ⟨w2.heap.size, 3, none⟩ = some (.int .i64 X.2.2.2.1) := hX4.cell 3
      have fX_4_3 : w4.frozen? ⟨w2.heap.size, 3, none⟩ = false := hX4.frozen 3
      have kX_4_4 : w4.cell? ⟨w2.heap.size, 4, none⟩ = some (.int .i64 X.2.2.2.2) := hX4.cell 4
      have fX_4_4 : w4.frozen? ⟨w2.heap.size, 4, none⟩ = false := hX4.frozen 4
      have zX_4 : w2.heap.size < w4.heap.size := hX4.lt
      by_cases hz : f_SecretOf l by_ = 0
      · have q0 : (f_SecretOf l by_ == 0) = true := by simp [hz]
        have HFF : Hid (F1 = false) := by show _ = _; rw [HF1.out, hz]; rfl
        clear hz
        go_wp2
        refine bodyPost_ret (v := .tuple #[.agg #[.slice none 0 0, .slice none 0 0, .slice none 0 0, .int .i64 0, .int .i64 0], .bool false]) (by simp [results, Tryz.results36, go_sem, kR_4_0, fR_4_0, kR_4_1, fR_4_1, kR_4_2, fR_4_2, kR_4_3, fR_4_3, kR_4_4, fR_4_4, kX_4_0, fX_4_0, kX_4_1, fX_4_1, kX_4_2, fX_4_2, kX_4_3, fX_4_3, kX_4_4, fX_4_4, zR_4, zX_4]) rfl ?_
        rw [HNO.out HFF.out, HFF.out]
        exact ⟨_, _, rfl, ow_zeroData _, fr_zero _ _, (by (repeat' (first | (with_reducible exact Below.refl _ _) | (with_reducible assumption) | (with_reducible refine bel_set ?_ (by (try dsimp only); omega) _) | (with_reducible refine bel_alloc ?_ _) | (with_reducible refine bel_drewN ?_ _) | (with_reducible refine bel_drew ?_) | (with_reducible refine bel_trans ?_ (by assumption)))); done)⟩
      have q0 : (f_SecretOf l by_ == 0) = false := by simp [hz]
      have HZ : Hid (decide (f_SecretOf l by_ = 0) = false) := by show _ = _; simp [hz]
      clear hz
      go_wp2_with fail
      refine (C_spec_ValidDataG _ _ X (Ty.rd_below hb4 (Ty.ow_rd (Ty.ow_keep (by intro b hb'; have hb'' := (hfrx).2 b hb'; (try simp only [World.size_alloc, World.size_setCell, size_drewN, World.size_drew] at hb''); repeat (first | (with_reducible rfl) | (rw [Below.heap_setCell _ _ _ _ (by (try dsimp only); omega)]) | (rw [Below.heap_alloc _ _ _ (by (try simp only [World.size_alloc, World.size_setCell]); omega)]))) howx)))).mono ?_
      rintro e w5 ⟨rfl, hb5⟩
      have hz5 := hb5.size
      have hx5 : Below WX.heap.size WX w5 := bel_trans hx4 hb5
      have hw5 : Below w.heap.size w w5 := bel_trans hvb hx5
      clear kR_4_0 fR_4_0 kR_4_1 fR_4_1 kR_4_2 fR_4_2 kR_4_3 fR_4_3 kR_4_4 fR_4_4 kX_4_0 fX_4_0 kX_4_1 fX_4_1 kX_4_2 fX_4_2 kX_4_3 fX_4_3 kX_4_4 fX_4_4
      obtain ⟨hK5, hN5, hR5⟩ := HB.out _ (hx5)
      have hX5 : Blk w5 (w2.heap.size) 34 #[.slice Ad0 (List.length X.1) cd0, .slice Ad1 (List.length X.2.1) cd1, .slice Ad2 (List.length X.2.2.1) cd2, .int .i64 X.2.2.2.1, .int .i64 X.2.2.2.2] := hX4.below hb5 (hX4.lt)
      have kR_5_0 : w5.cell? ⟨w.heap.size + 1 + 1, 0, none⟩ = some (.slice none 0 0) := hR5.cell 0
      have fR_5_0 : w5.frozen? ⟨w.heap.size + 1 + 1, 0, none⟩ = false := hR5.frozen 0
      have kR_5_1 : w5.cell? ⟨w.heap.size + 1 + 1, 1, none⟩ = some (.slice none 0 0) := hR5.cell 1
      have fR_5_1 : w5.frozen? ⟨w.heap.size + 1 + 1, 1, none⟩ = false := hR5.frozen 1
      have kR_5_2 : w5.cell? ⟨w.heap.size + 1 + 1, 2, none⟩ = some (.slice none 0 0) := hR5.cell 2
      have fR_5_2 : w5.frozen? ⟨w.heap.size + 1 + 1, 2, none⟩ = false := hR5.frozen 2
      have kR_5_3 : w5.cell? ⟨w.heap.size + 1 + 1, 3, none⟩ = some (.int .i64 0) := hR5.cell 3
      have fR_5_3 : w5.frozen? ⟨w.heap.size + 1 + 1, 3, none⟩ = false := hR5.frozen 3
      have kR_5_4 : w5.cell? ⟨w.heap.size + 1 + 1, 4, none⟩ = some (.int .i64 0) := hR5.cell 4
      have fR_5_4 : w5.frozen? ⟨w.heap.size + 1 + 1, 4, none⟩ = false := hR5.frozen 4
      have zR_5 : w.heap.size + 1 + 1 < w5.heap.size := hR5.lt
      have kX_5_0 : w5.cell? ⟨w2.heap.size, 0, none⟩ = some (.slice Ad0 (List.length X.1) cd0) := hX5.cell 0
      have fX_5_0 : w5.frozen? ⟨w2.heap.size, 0, none⟩ = false := hX5.frozen 0
      have kX_5_1 : w5.cell? ⟨w2.heap.size, 1, none⟩ = some (.slice Ad1 (List.length X.2.1) cd1) := hX5.cell 1
      have fX_5_1 : w5.frozen? ⟨w2.heap.size, 1, none⟩ = false := hX5.frozen 1
      have kX_5_2 : w5.cell? ⟨w2.heap.size, 2, none⟩ = some (.slice Ad2 (List.length X.2.2.1) cd2) := hX5.cell 2
      have fX_5_2 : w5.frozen? ⟨w2.heap.size, 2, none⟩ = false := hX5.frozen 2
      have kX_5_3 : w5.cell? ⟨w2.heap.size, 3, none⟩ = some (.int .i64 X.2.2.2.1) := hX5.cell 3
      have fX_5_3 : w5.frozen? ⟨w2.heap.size, 3, none⟩ = false := hX5.frozen 3
      have kX_5_4 : w5.cell? ⟨w2.heap.size, 4, none⟩ = some (.int .i64 X.2.2.2.2) := hX5.cell 4
      have fX_5_4 : w5.frozen? ⟨w2.heap.size, 4, none⟩ = false := hX5.frozen 4
      have zX_5 : w2.heap.size < w5.heap.size := hX5.lt
      cases q1 : f_ValidData X
      · have HFF : Hid (F1 = false) := by show _ = _; rw [HF1.out, HZ.out, q1]; rfl
        clear q1
        go_wp2
        refine bodyPost_ret (v := .tuple #[.agg #[.slice none 0 0, .slice none 0 0, .slice none 0 0, .int .i64 0, .int .i64 0], .bool false]) (by simp [results, Tryz.results36, go_sem, kR_5_0, fR_5_0, kR_5_1, fR_5_1, kR_5_2, fR_5_2, kR_5_3, fR_5_3, kR_5_4, fR_5_4, kX_5_0, fX_5_0, kX_5_1, fX_5_1, kX_5_2, fX_5_2, kX_5_3, fX_5_3, kX_5_4, fX_5_4, zR_5, zX_5]) rfl ?_
        rw [HNO.out HFF.out, HFF.out]
        exact ⟨_, _, rfl, ow_zeroData _, fr_zero _ _, (by (repeat' (first | (with_reducible exact Below.refl _ _) | (with_reducible assumption) | (with_reducible refine bel_set ?_ (by (try dsimp only); omega) _) | (with_reducible refine bel_alloc ?_ _) | (with_reducible refine bel_drewN ?_ _) | (with_reducible refine bel_drew ?_) | (with_reducible refine bel_trans ?_ (by assumption)))); done)⟩
      · have HFF : Hid (F1 = true) := by show _ = _; rw [HF1.out, HZ.out, q1]; rfl
        clear q1
        go_wp2
        refine bodyPost_ret (v := .tuple #[.agg #[.slice Ad0 (List.length X.1) cd0, .slice Ad1 (List.length X.2.1) cd1, .slice Ad2 (List.length X.2.2.1) cd2, .int .i64 X.2.2.2.1, .int .i64 X.2.2.2.2], .bool true]) (by simp [results, Tryz.results36, go_sem, kR_5_0, fR_5_0, kR_5_1, fR_5_1, kR_5_2, fR_5_2, kR_5_3, fR_5_3, kR_5_4, fR_5_4, kX_5_0, fX_5_0, kX_5_1, fX_5_1, kX_5_2, fX_5_2, kX_5_3, fX_5_3, kX_5_4, fX_5_4, zR_5, zX_5]) rfl ?_
        rw [HYES.out HFF.out, HFF.out]
        exact ⟨_, fpx, rfl, Ty.ow_keep (by intro b hb'; have hb'' := (hfrx).2 b hb'; (try simp only [World.size_alloc, World.size_setCell, size_drewN, World.size_drew] at hb''); repeat (first | (with_reducible rfl) | (rw [Below.heap_setCell _ _ _ _ (by (try dsimp only); omega)]) | (rw [Below.heap_alloc _ _ _ (by (try simp only [World.size_alloc, World.size_setCell]); omega)]) | (rw [hb5.block _ (by (try simp only [World.size_alloc, World.size_setCell, size_drewN, World.size_drew]); omega)]) | (rw [hb4.block _ (by (try simp only [World.size_alloc, World.size_setCell, size_drewN, World.size_drew]); omega)]))) howx, hfrx.mono (by (try simp only [World.size_alloc, World.size_drew, size_drewN] at *); omega) (by (try simp only [World.size_alloc, World.size_setCell, size_drewN, World.size_drew]); omega), (by (repeat' (first | (with_reducible exact Below.refl _ _) | (with_reducible assumption) | (with_reducible refine bel_set ?_ (by (try dsimp only); omega) _) | (with_reducible refine bel_alloc ?_ _) | (with_reducible refine bel_drewN ?_ _) | (with_reducible refine bel_drew ?_) | (with_reducible refine bel_trans ?_ (by assumption)))); done)⟩
    · go_simp
      refine hK.out _ _ ?_ (fun hHeld => ?_)
      · (try dsimp only)
        exact HS.out _ (by (repeat' (first | (with_reducible exact Below.refl _ _) | (with_reducible assumption) | (with_reducible refine bel_set ?_ (by (try dsimp only); omega) _) | (with_reducible refine bel_alloc ?_ _) | (with_reducible refine bel_drewN ?_ _) | (with_reducible refine bel_drew ?_) | (with_reducible refine bel_trans ?_ (by assumption)))); done)
      clear hK K
      try simp only [Act.put, List.setIfInBounds_toArray, List.set_cons_zero, List.set_cons_succ]
      refine wpAnyH_ready (rs := [8]) (by kernel_rfl) (by simp) ?_
      refine (AllReadyH.cons (opN rfl) (fun K hK => ?_) AllReadyH.nil)
      go_simp
      go_at_call 96
      refine (C_spec_SignDataB _ _ _ (swkD by_ n b till) (rd_Data_mk (x := swkD by_ n b till) (Ty.rd_below (by (repeat' (first | (with_reducible exact Below.refl _ _) | (with_reducible assumption) | (with_reducible refine bel_set ?_ (by (try dsimp only); omega) _) | (with_reducible refine bel_alloc ?_ _) | (with_reducible refine bel_drewN ?_ _) | (with_reducible refine bel_drew ?_) | (with_reducible refine bel_trans ?_ (by assumption)))); done) (Ty.rd_below hvb h2)) (Ty.rd_below (by (repeat' (first | (with_reducible exact Below.refl _ _) | (with_reducible assumption) | (with_reducible refine bel_set ?_ (by (try dsimp only); omega) _) | (with_reducible refine bel_alloc ?_ _) | (with_reducible refine bel_drewN ?_ _) | (with_reducible refine bel_drew ?_) | (with_reducible refine bel_trans ?_ (by assumption)))); done) (Ty.rd_below hvb h3)) (Ty.rd_below (by (repeat' (first | (with_reducible exact Below.refl _ _) | (with_reducible assumption) | (with_reducible refine bel_set ?_ (by (try dsimp only); omega) _) | (with_reducible refine bel_alloc ?_ _) | (with_reducible refine bel_drewN ?_ _) | (with_reducible refine bel_drew ?_) | (with_reducible refine bel_trans ?_ (by assumption)))); done) (Ty.rd_below hvb h1)) i4 (by show _ ≤ (0 : Int) ∧ (0 : Int) ≤ _; decide)) hsb hbk).mono ?_
      rw [← HX.out]
      rintro e w2 ⟨csx, fpx, rfl, howx, hfrx, hb2⟩
      obtain ⟨Ad0, cd0, Ad1, cd1, Ad2, cd2, rfl⟩ := ow_Data howx
      have hx2 : Below WX.heap.size WX w2 := (by (repeat' (first | (with_reducible exact Below.refl _ _) | (with_reducible assumption) | (with_reducible refine bel_set ?_ (by (try dsimp only); omega) _) | (with_reducible refine bel_alloc ?_ _) | (with_reducible refine bel_drewN ?_ _) | (with_reducible refine bel_drew ?_) | (with_reducible refine bel_trans ?_ (by assumption)))); done)
      refine hK.out _ _ ?_ (fun hHeld => ?_)
      · (try dsimp only)
        exact HS.out _ (by (repeat' (first | (with_reducible exact Below.refl _ _) | (with_reducible assumption) | (with_reducible refine bel_set ?_ (by (try dsimp only); omega) _) | (with_reducible refine bel_alloc ?_ _) | (with_reducible refine bel_drewN ?_ _) | (with_reducible refine bel_drew ?_) | (with_reducible refine bel_trans ?_ (by assumption)))); done)
      clear hK K
      try simp only [Act.put, List.setIfInBounds_toArray, List.set_cons_zero, List.set_cons_succ]
      have hzs1 := hb1.size
      have hzs2 := hb2.size
      try simp only [World.size_alloc, World.size_drew, size_drewN] at hzs1 hzs2
      have hG2 : Blk w2 (w1.heap.size) 34 #[.slice none 0 0, .slice none 0 0, .slice none 0 0, .int .i64 0, .int .i64 0] := by
        first
          | exact (Blk.new (w1) _ _).below hb2 (by simp only [World.size_alloc, World.size_drew, size_drewN]; omega)
          | exact (Blk.drew (Blk.new (w1) _ _)).below hb2 (by simp only [World.size_alloc, World.size_drew, size_drewN]; omega)
          | exact ((Blk.drew (Blk.new (w1) _ _)).below hb1 (by simp only [World.size_alloc, World.size_drew, size_drewN]; omega)).below hb2 (by have := hb1.size; simp only [World.size_alloc, World.size_drew, size_drewN] at this; omega)
          | exact ((Blk.new (w1) _ _).below hb1 (by simp only [World.size_alloc, World.size_drew, size_drewN]; omega)).below hb2 (by have := hb1.size; simp only [World.size_alloc, World.size_drew, size_drewN] at this; omega)
      have kG_2_0 : w2.cell? ⟨w1.heap.size, 0, none⟩ = some (.slice none 0 0) := hG2.cell 0
      have fG_2_0 : w2.frozen? ⟨w1.heap.size, 0, none⟩ = false := hG2.frozen 0
      have kG_2_1 : w2.cell? ⟨w1.heap.size, 1, none⟩ = some (.slice none 0 0) := hG2.cell 1
      have fG_2_1 : w2.frozen? ⟨w1.heap.size, 1, none⟩ = false := hG2.frozen 1
      have kG_2_2 : w2.cell? ⟨w1.heap.size, 2, none⟩ = some (.slice none 0 0) := hG2.cell 2
      have fG_2_2 : w2.frozen? ⟨w1.heap.size, 2, none⟩ = false := hG2.frozen 2
      have kG_2_3 : w2.cell? ⟨w1.heap.size, 3, none⟩ = some (.int .i64 0) := hG2.cell 3
      have fG_2_3 : w2.frozen? ⟨w1.heap.size, 3, none⟩ = false := hG2.frozen 3
      have kG_2_4 : w2.cell? ⟨w1.heap.size, 4, none⟩ = some (.int .i64 0) := hG2.cell 4
      have fG_2_4 : w2.frozen? ⟨w1.heap.size, 4, none⟩ = false := hG2.frozen 4
      have zG_2 : w1.heap.size < w2.heap.size := hG2.lt
      refine wpAnyH_ready (rs := [10]) (by kernel_rfl) (by simp) ?_
      refine (AllReadyH.cons (opN rfl) (fun K hK => ?_) AllReadyH.nil)
      go_simp
      refine hK.out _ _ ?_ (fun hHeld => ?_)
      · (try dsimp only)
        exact HS.out _ (by (repeat' (first | (with_reducible exact Below.refl _ _) | (with_reducible assumption) | (with_reducible refine bel_set ?_ (by (try dsimp only); omega) _) | (with_reducible refine bel_alloc ?_ _) | (with_reducible refine bel_drewN ?_ _) | (with_reducible refine bel_drew ?_) | (with_reducible refine bel_trans ?_ (by assumption)))); done)
      clear hK K
      try simp only [Act.put, List.setIfInBounds_toArray, List.set_cons_zero, List.set_cons_succ]
      clear kG_2_0 fG_2_0 kG_2_1 fG_2_1 kG_2_2 fG_2_2 kG_2_3 fG_2_3 kG_2_4 fG_2_4
      refine wpAnyH_done (by kernel_rfl) ?_ _
      refine NoPanic.normal ?_
      go_wp2_with fail
      refine (C_spec_SecretOf _ _ l _ by_ (Ty.rd_below (by (repeat' (first | (with_reducible exact Below.refl _ _) | (with_reducible assumption) | (with_reducible refine bel_set ?_ (by (try dsimp only); omega) _) | (with_reducible refine bel_alloc ?_ _) | (with_reducible refine bel_drewN ?_ _) | (with_reducible refine bel_drew ?_) | (with_reducible refine bel_trans ?_ (by assumption)))); done) (Ty.rd_below hvb h0)) (Ty.rd_below (by (repeat' (first | (with_reducible exact Below.refl _ _) | (with_reducible assumption) | (with_reducible refine bel_set ?_ (by (try dsimp only); omega) _) | (with_reducible refine bel_alloc ?_ _) | (with_reducible refine bel_drewN ?_ _) | (with_reducible refine bel_drew ?_) | (with_reducible refine bel_trans ?_ (by assumption)))); done) (Ty.rd_below hvb h1)) s0 s1).mono ?_
      rintro e w4 ⟨rfl, hb4⟩
      have hz4 := hb4.size
      try simp only [World.size_alloc, World.size_setCell, World.size_drew, size_drewN] at hz4
      have hx4 : Below WX.heap.size WX w4 := (by (repeat' (first | (with_reducible exact Below.refl _ _) | (with_reducible assumption) | (with_reducible refine bel_set ?_ (by (try dsimp only); omega) _) | (with_reducible refine bel_alloc ?_ _) | (with_reducible refine bel_drewN ?_ _) | (with_reducible refine bel_drew ?_) | (with_reducible refine bel_trans ?_ (by assumption)))); done)
      have hw4 : Below w.heap.size w w4 := bel_trans hvb hx4
      have hX4 : Blk w4 (w1.heap.size) 34 #[.slice Ad0 (List.length X.1) cd0, .slice Ad1 (List.length X.2.1) cd1, .slice Ad2 (List.length X.2.2.1) cd2, .int .i64 X.2.2.2.1, .int .i64 X.2.2.2.2] := by
        refine Blk.below (w := _) (B := _) ?_ hb4 (by simp only [World.size_alloc, World.size_setCell, World.size_drew, size_drewN]; omega)
        exact ((((hG2.set_ 0 _).set_ 1 _).set_ 2 _).set_ 3 _).set_ 4 _
      obtain ⟨hK4, hN4, hR4⟩ := HB.out _ (hx4)
      have kR_4_0 : w4.cell? ⟨w.heap.size + 1 + 1, 0, none⟩ = some (.slice none 0 0) := hR4.cell 0
      have fR_4_0 : w4.frozen? ⟨w.heap.size + 1 + 1, 0, none⟩ = false := hR4.frozen 0
      have kR_4_1 : w4.cell? ⟨w.heap.size + 1 + 1, 1, none⟩ = some (.slice none 0 0) := hR4.cell 1
      have fR_4_1 : w4.frozen? ⟨w.heap.size + 1 + 1, 1, none⟩ = false := hR4.frozen 1
      have kR_4_2 : w4.cell? ⟨w.heap.size + 1 + 1, 2, none⟩ = some (.slice none 0 0) := hR4.cell 2
      have fR_4_2 : w4.frozen? ⟨w.heap.size + 1 + 1, 2, none⟩ = false := hR4.frozen 2
      have kR_4_3 : w4.cell? ⟨w.heap.size + 1 + 1, 3, none⟩ = some (.int .i64 0) := hR4.cell 3
      have fR_4_3 : w4.frozen? ⟨w.heap.size + 1 + 1, 3, none⟩ = false := hR4.frozen 3
      have kR_4_4 : w4.cell? ⟨w.heap.size + 1 + 1, 4, none⟩ = some (.int .i64 0) := hR4.cell 4
      have fR_4_4 : w4.frozen? ⟨w.heap.size + 1 + 1, 4, none⟩ = false := hR4.frozen 4
      have zR_4 : w.heap.size + 1 + 1 < w4.heap.size := hR4.lt
      have kX_4_0 : w4.cell? ⟨w1.heap.size, 0, none⟩ = some (.slice Ad0 (List.length X.1) cd0) := hX4.cell 0
      have fX_4_0 : w4.frozen? ⟨w1.heap.size, 0, none⟩ = false := hX4.frozen 0
      have kX_4_1 : w4.cell? ⟨w1.heap.size, 1, none⟩ = some (.slice Ad1 (List.length X.2.1) cd1) := hX4.cell 1
      have fX_4_1 : w4.frozen? ⟨w1.heap.size, 1, none⟩ = false := hX4.frozen 1
      have kX_4_2 : w4.cell? ⟨w1.heap.size, 2, none⟩ = some (.slice Ad2 (List.length X.2.2.1) cd2) := hX4.cell 2
      have fX_4_2 : w4.frozen? ⟨w1.heap.size, 2, none⟩ = false := hX4.frozen 2
      have kX_4_3 : w4.cell? ⟨w1.heap.size, 3, none⟩ = some (.int .i64 X.2.2.2.1) := hX4.cell 3
      have fX_4_3 : w4.frozen? ⟨w1.heap.size, 3, none⟩ = false := hX4.frozen 3
      have kX_4_4 : w4.cell? ⟨w1.heap.size, 4, none⟩ = some (.int .i64 X.2.2.2.2) := hX4.cell 4
      have fX_4_4 : w4.frozen? ⟨w1.heap.size, 4, none⟩ = false := hX4.frozen 4
      have zX_4 : w1.heap.size < w4.heap.size := hX4.lt
      by_cases hz : f_SecretOf l by_ = 0
      · have q0 : (f_SecretOf l by_ == 0) = true := by simp [hz]
        have HFF : Hid (F1 = false) := by show _ = _; rw [HF1.out, hz]; rfl
        clear hz
        go_wp2
        refine bodyPost_ret (v := .tuple #[.agg #[.slice none 0 0, .slice none 0 0, .slice none 0 0, .int .i64 0, .int .i64 0], .bool false]) (by simp [results, Tryz.results36, go_sem, kR_4_0, fR_4_0, kR_4_1, fR_4_1, kR_4_2, fR_4_2, kR_4_3, fR_4_3, kR_4_4, fR_4_4, kX_4_0, fX_4_0, kX_4_1, fX_4_1, kX_4_2, fX_4_2, kX_4_3, fX_4_3, kX_4_4, fX_4_4, zR_4, zX_4]) rfl ?_
        rw [HNO.out HFF.out, HFF.out]
        exact ⟨_, _, rfl, ow_zeroData _, fr_zero _ _, (by (repeat' (first | (with_reducible exact Below.refl _ _) | (with_reducible assumption) | (with_reducible refine bel_set ?_ (by (try dsimp only); omega) _) | (with_reducible refine bel_alloc ?_ _) | (with_reducible refine bel_drewN ?_ _) | (with_reducible refine bel_drew ?_) | (with_reducible refine bel_trans ?_ (by assumption)))); done)⟩
      have q0 : (f_SecretOf l by_ == 0) = false := by simp [hz]
      have HZ : Hid (decide (f_SecretOf l by_ = 0) = false) := by show _ = _; simp [hz]
      clear hz
      go_wp2_with fail
      refine (C_spec_ValidDataG _ _ X (Ty.rd_below hb4 (Ty.ow_rd (Ty.ow_keep (by intro b hb'; have hb'' := (hfrx).2 b hb'; (try simp only [World.size_alloc, World.size_setCell, size_drewN, World.size_drew] at hb''); repeat (first | (with_reducible rfl) | (rw [Below.heap_setCell _ _ _ _ (by (try dsimp only); omega)]) | (rw [Below.heap_alloc _ _ _ (by (try simp only [World.size_alloc, World.size_setCell]); omega)]))) howx)))).mono ?_
      rintro e w5 ⟨rfl, hb5⟩
      have hz5 := hb5.size
      have hx5 : Below WX.heap.size WX w5 := bel_trans hx4 hb5
      have hw5 : Below w.heap.size w w5 := bel_trans hvb hx5
      clear kR_4_0 fR_4_0 kR_4_1 fR_4_1 kR_4_2 fR_4_2 kR_4_3 fR_4_3 kR_4_4 fR_4_4 kX_4_0 fX_4_0 kX_4_1 fX_4_1 kX_4_2 fX_4_2 kX_4_3 fX_4_3 kX_4_4 fX_4_4
      obtain ⟨hK5, hN5, hR5⟩ := HB.out _ (hx5)
      have hX5 : Blk w5 (w1.heap.size) 34 #[.slice Ad0 (List.length X.1) cd0, .slice Ad1 (List.length X.2.1) cd1, .slice Ad2 (List.length X.2.2.1) cd2, .int .i64 X.2.2.2.1, .int .i64 X.2.2.2.2] := hX4.below hb5 (hX4.lt)
      have kR_5_0 : w5.cell? ⟨w.heap.size + 1 + 1, 0, none⟩ = some (.slice none 0 0) := hR5.cell 0
      have fR_5_0 : w5.frozen? ⟨w.heap.size + 1 + 1, 0, none⟩ = false := hR5.frozen 0
      have kR_5_1 : w5.cell? ⟨w.heap.size + 1 + 1, 1, none⟩ = some (.slice none 0 0) := hR5.cell 1
      have fR_5_1 : w5.frozen? ⟨w.heap.size + 1 + 1, 1, none⟩ = false := hR5.frozen 1
      have kR_5_2 : w5.cell? ⟨w.heap.size + 1 + 1, 2, none⟩ = some (.slice none 0 0) := hR5.cell 2
      have fR_5_2 : w5.frozen? ⟨w.heap.size + 1 + 1, 2, none⟩ = false := hR5.frozen 2
      have kR_5_3 : w5.cell? ⟨w.heap.size + 1 + 1, 3, none⟩ = some (.int .i64 0) := hR5.cell 3
      have fR_5_3 : w5.frozen? ⟨w.heap.size + 1 + 1, 3, none⟩ = false := hR5.frozen 3
      have kR_5_4 : w5.cell? ⟨w.heap.size + 1 + 1, 4, none⟩ = some (.int .i64 0) := hR5.cell 4
      have fR_5_4 : w5.frozen? ⟨w.heap.size + 1 + 1, 4, none⟩ = false := hR5.frozen 4
      have zR_5 : w.heap.size + 1 + 1 < w5.heap.size := hR5.lt
      have kX_5_0 : w5.cell? ⟨w1.heap.size, 0, none⟩ = some (.slice Ad0 (List.length X.1) cd0) := hX5.cell 0
      have fX_5_0 : w5.frozen? ⟨w1.heap.size, 0, none⟩ = false := hX5.frozen 0
      have kX_5_1 : w5.cell? ⟨w1.heap.size, 1, none⟩ = some (.slice Ad1 (List.length X.2.1) cd1) := hX5.cell 1
      have fX_5_1 : w5.frozen? ⟨w1.heap.size, 1, none⟩ = false := hX5.frozen 1
      have kX_5_2 : w5.cell? ⟨w1.heap.size, 2, none⟩ = some (.slice Ad2 (List.length X.2.2.1) cd2) := hX5.cell 2
      have fX_5_2 : w5.frozen? ⟨w1.heap.size, 2, none⟩ = false := hX5.frozen 2
      have kX_5_3 : w5.cell? ⟨w1.heap.size, 3, none⟩ = some (.int .i64 X.2.2.2.1) := hX5.cell 3
      have fX_5_3 : w5.frozen? ⟨w1.heap.size, 3, none⟩ = false := hX5.frozen 3
      have kX_5_4 : w5.cell? ⟨w1.heap.size, 4, none⟩ = some (.int .i64 X.2.2.2.2) := hX5.cell 4
      have fX_5_4 : w5.frozen? ⟨w1.heap.size, 4, none⟩ = false := hX5.frozen 4
      have zX_5 : w1.heap.size < w5.heap.size := hX5.lt
      cases q1 : f_ValidData X
      · have HFF : Hid (F1 = false) := by show _ = _; rw [HF1.out, HZ.out, q1]; rfl
        clear q1
        go_wp2
        refine bodyPost_ret (v := .tuple #[.agg #[.slice none 0 0, .slice none 0 0, .slice none 0 0, .int .i64 0, .int .i64 0], .bool false]) (by simp [results, Tryz.results36, go_sem, kR_5_0, fR_5_0, kR_5_1, fR_5_1, kR_5_2, fR_5_2, kR_5_3, fR_5_3, kR_5_4, fR_5_4, kX_5_0, fX_5_0, kX_5_1, fX_5_1, kX_5_2, fX_5_2, kX_5_3, fX_5_3, kX_5_4, fX_5_4, zR_5, zX_5]) rfl ?_
        rw [HNO.out HFF.out, HFF.out]
        exact ⟨_, _, rfl, ow_zeroData _, fr_zero _ _, (by (repeat' (first | (with_reducible exact Below.refl _ _) | (with_reducible assumption) | (with_reducible refine bel_set ?_ (by (try dsimp only); omega) _) | (with_reducible refine bel_alloc ?_ _) | (with_reducible refine bel_drewN ?_ _) | (with_reducible refine bel_drew ?_) | (with_reducible refine bel_trans ?_ (by assumption)))); done)⟩
      · have HFF : Hid (F1 = true) := by show _ = _; rw [HF1.out, HZ.out, q1]; rfl
        clear q1
        go_wp2
        refine bodyPost_ret (v := .tuple #[.agg #[.slice Ad0 (List.length X.1) cd0, .slice Ad1 (List.length X.2.1) cd1, .slice Ad2 (List.length X.2.2.1) cd2, .int .i64 X.2.2.2.1, .int .i64 X.2.2.2.2], .bool true]) (by simp [results, Tryz.results36, go_sem, kR_5_0, fR_5_0, kR_5_1, fR_5_1, kR_5_2, fR_5_2, kR_5_3, fR_5_3, kR_5_4, fR_5_4, kX_5_0, fX_5_0, kX_5_1, fX_5_1, kX_5_2, fX_5_2, kX_5_3, fX_5_3, kX_5_4, fX_5_4, zR_5, zX_5]) rfl ?_
        rw [HYES.out HFF.out, HFF.out]
        exact ⟨_, fpx, rfl, Ty.ow_keep (by intro b hb'; have hb'' := (hfrx).2 b hb'; (try simp only [World.size_alloc, World.size_setCell, size_drewN, World.size_drew] at hb''); repeat (first | (with_reducible rfl) | (rw [Below.heap_setCell _ _ _ _ (by (try dsimp only); omega)]) | (rw [Below.heap_alloc _ _ _ (by (try simp only [World.size_alloc, World.size_setCell]); omega)]) | (rw [hb5.block _ (by (try simp only [World.size_alloc, World.size_setCell, size_drewN, World.size_drew]); omega)]) | (rw [hb4.block _ (by (try simp only [World.size_alloc, World.size_setCell, size_drewN, World.size_drew]); omega)]))) howx, hfrx.mono (by (try simp only [World.size_alloc, World.size_drew, size_drewN] at *); omega) (by (try simp only [World.size_alloc, World.size_setCell, size_drewN, World.size_drew]); omega), (by (repeat' (first | (with_reducible exact Below.refl _ _) | (with_reducible assumption) | (with_reducible refine bel_set ?_ (by (try dsimp only); omega) _) | (with_reducible refine bel_alloc ?_ _) | (with_reducible refine bel_drewN ?_ _) | (with_reducible refine bel_drew ?_) | (with_reducible refine bel_trans ?_ (by assumption)))); done)⟩
  · go_simp
    refine hK.out _ _ ?_ (fun hHeld => ?_)
    · (try dsimp only)
      exact HS.out _ (by (repeat' (first | (with_reducible exact Below.refl _ _) | (with_reducible assumption) | (with_reducible refine bel_set ?_ (by (try dsimp only); omega) _) | (with_reducible refine bel_alloc ?_ _) | (with_reducible refine bel_drewN ?_ _) | (with_reducible refine bel_drew ?_) | (with_reducible refine bel_trans ?_ (by assumption)))); done)
    clear hK K
    try simp only [Act.put, List.setIfInBounds_toArray, List.set_cons_zero, List.set_cons_succ]
    refine wpAnyH_ready (rs := [2]) (by kernel_rfl) (by simp) ?_
    refine (AllReadyH.cons (opN rfl) (fun K hK => ?_) AllReadyH.nil)
    go_simp
    go_at_call 48
    refine (C_spec_SecretOf _ _ l _ by_ (Ty.rd_below (by (repeat' (first | (with_reducible exact Below.refl _ _) | (with_reducible assumption) | (with_reducible refine bel_set ?_ (by (try dsimp only); omega) _) | (with_reducible refine bel_alloc ?_ _) | (with_reducible refine bel_drewN ?_ _) | (with_reducible refine bel_drew ?_) | (with_reducible refine bel_trans ?_ (by assumption)))); done) (Ty.rd_below hvb h0)) (Ty.rd_below (by (repeat' (first | (with_reducible exact Below.refl _ _) | (with_reducible assumption) | (with_reducible refine bel_set ?_ (by (try dsimp only); omega) _) | (with_reducible refine bel_alloc ?_ _) | (with_reducible refine bel_drewN ?_ _) | (with_reducible refine bel_drew ?_) | (with_reducible refine bel_trans ?_ (by assumption)))); done) (Ty.rd_below hvb h1)) s0 s1).mono ?_
    rintro e w1 ⟨rfl, hb1⟩
    have hx1 : Below WX.heap.size WX w1 := (by (repeat' (first | (with_reducible exact Below.refl _ _) | (with_reducible assumption) | (with_reducible refine bel_set ?_ (by (try dsimp only); omega) _) | (with_reducible refine bel_alloc ?_ _) | (with_reducible refine bel_drewN ?_ _) | (with_reducible refine bel_drew ?_) | (with_reducible refine bel_trans ?_ (by assumption)))); done)
    refine hK.out _ _ ?_ (fun hHeld => ?_)
    · (try dsimp only)
      exact HS.out _ (by (repeat' (first | (with_reducible exact Below.refl _ _) | (with_reducible assumption) | (with_reducible refine bel_set ?_ (by (try dsimp only); omega) _) | (with_reducible refine bel_alloc ?_ _) | (with_reducible refine bel_drewN ?_ _) | (with_reducible refine bel_drew ?_) | (with_reducible refine bel_trans ?_ (by assumption)))); done)
    clear hK K
    try simp only [Act.put, List.setIfInBounds_toArray, List.set_cons_zero, List.set_cons_succ]
    refine wpAnyH_ready (rs := [8]) (by kernel_rfl) (by simp) ?_
    refine (AllReadyH.cons (opN rfl) (fun K hK => ?_) AllReadyH.nil)
    go_simp
    go_at_call 96
    refine (C_spec_SignDataB _ _ _ (swkD by_ n b till) (rd_Data_mk (x := swkD by_ n b till) (Ty.rd_below (by (repeat' (first | (with_reducible exact Below.refl _ _) | (with_reducible assumption) | (with_reducible refine bel_set ?_ (by (try dsimp only); omega) _) | (with_reducible refine bel_alloc ?_ _) | (with_reducible refine bel_drewN ?_ _) | (with_reducible refine bel_drew ?_) | (with_reducible refine bel_trans ?_ (by assumption)))); done) (Ty.rd_below hvb h2)) (Ty.rd_below (by (repeat' (first | (with_reducible exact Below.refl _ _) | (with_reducible assumption) | (with_reducible refine bel_set ?_ (by (try dsimp only); omega) _) | (with_reducible refine bel_alloc ?_ _) | (with_reducible refine bel_drewN ?_ _) | (with_reducible refine bel_drew ?_) | (with_reducible refine bel_trans ?_ (by assumption)))); done) (Ty.rd_below hvb h3)) (Ty.rd_below (by (repeat' (first | (with_reducible exact Below.refl _ _) | (with_reducible assumption) | (with_reducible refine bel_set ?_ (by (try dsimp only); omega) _) | (with_reducible refine bel_alloc ?_ _) | (with_reducible refine bel_drewN ?_ _) | (with_reducible refine bel_drew ?_) | (with_reducible refine bel_trans ?_ (by assumption)))); done) (Ty.rd_below hvb h1)) i4 (by show _ ≤ (0 : Int) ∧ (0 : Int) ≤ _; decide)) hsb hbk).mono ?_
    rw [← HX.out]
    rintro e w2 ⟨csx, fpx, rfl, howx, hfrx, hb2⟩
    obtain ⟨Ad0, cd0, Ad1, cd1, Ad2, cd2, rfl⟩ := ow_Data howx
    have hx2 : Below WX.heap.size WX w2 := (by (repeat' (first | (with_reducible exact Below.refl _ _) | (with_reducible assumption) | (with_reducible refine bel_set ?_ (by (try dsimp only); omega) _) | (with_reducible refine bel_alloc ?_ _) | (with_reducible refine bel_drewN ?_ _) | (with_reducible refine bel_drew ?_) | (with_reducible refine bel_trans ?_ (by assumption)))); done)
    refine hK.out _ _ ?_ (fun hHeld => ?_)
    · (try dsimp only)
      exact HS.out _ (by (repeat' (first | (with_reducible exact Below.refl _ _) | (with_reducible assumption) | (with_reducible refine bel_set ?_ (by (try dsimp only); omega) _) | (with_reducible refine bel_alloc ?_ _) | (with_reducible refine bel_drewN ?_ _) | (with_reducible refine bel_drew ?_) | (with_reducible refine bel_trans ?_ (by assumption)))); done)
    clear hK K
    try simp only [Act.put, List.setIfInBounds_toArray, List.set_cons_zero, List.set_cons_succ]
    have hzs1 := hb1.size
    have hzs2 := hb2.size
    try simp only [World.size_alloc, World.size_drew, size_drewN] at hzs1 hzs2
    have hG2 : Blk w2 (WX.heap.size) 34 #[.slice none 0 0, .slice none 0 0, .slice none 0 0, .int .i64 0, .int .i64 0] := by
      first
        | exact (Blk.new (WX) _ _).below hb2 (by simp only [World.size_alloc, World.size_drew, size_drewN]; omega)
        | exact (Blk.drew (Blk.new (WX) _ _)).below hb2 (by simp only [World.size_alloc, World.size_drew, size_drewN]; omega)
        | exact ((Blk.drew (Blk.new (WX) _ _)).below hb1 (by simp only [World.size_alloc, World.size_drew, size_drewN]; omega)).below hb2 (by have := hb1.size; simp only [World.size_alloc, World.size_drew, size_drewN] at this; omega)
        | exact ((Blk.new (WX) _ _).below hb1 (by simp only [World.size_alloc, World.size_drew, size_drewN]; omega)).below hb2 (by have := hb1.size; simp only [World.size_alloc, World.size_drew, size_drewN] at this; omega)
    have kG_2_0 : w2.cell? ⟨WX.heap.size, 0, none⟩ = some (.slice none 0 0) := hG2.cell 0
    have fG_2_0 : w2.frozen? ⟨WX.heap.size, 0, none⟩ = false := hG2.frozen 0
    have kG_2_1 : w2.cell? ⟨WX.heap.size, 1, none⟩ = some (.slice none 0 0) := hG2.cell 1
    have fG_2_1 : w2.frozen? ⟨WX.heap.size, 1, none⟩ = false := hG2.frozen 1
    have kG_2_2 : w2.cell? ⟨WX.heap.size, 2, none⟩ = some (.slice none 0 0) := hG2.cell 2
    have fG_2_2 : w2.frozen? ⟨WX.heap.size, 2, none⟩ = false := hG2.frozen 2
    have kG_2_3 : w2.cell? ⟨WX.heap.size, 3, none⟩ = some (.int .i64 0) := hG2.cell 3
    have fG_2_3 : w2.frozen? ⟨WX.heap.size, 3, none⟩ = false := hG2.frozen 3
    have kG_2_4 : w2.cell? ⟨WX.heap.size, 4, none⟩ = some (.int .i64 0) := hG2.cell 4
    have fG_2_4 : w2.frozen? ⟨WX.heap.size, 4, none⟩ = false := hG2.frozen 4
    have zG_2 : WX.heap.size < w2.heap.size := hG2.lt
    refine wpAnyH_ready (rs := [10]) (by kernel_rfl) (by simp) ?_
    refine (AllReadyH.cons (opN rfl) (fun K hK => ?_) AllReadyH.nil)
    go_simp
    refine hK.out _ _ ?_ (fun hHeld => ?_)
    · (try dsimp only)
      exact HS.out _ (by (repeat' (first | (with_reducible exact Below.refl _ _) | (with_reducible assumption) | (with_reducible refine bel_set ?_ (by (try dsimp only); omega) _) | (with_reducible refine bel_alloc ?_ _) | (with_reducible refine bel_drewN ?_ _) | (with_reducible refine bel_drew ?_) | (with_reducible refine bel_trans ?_ (by assumption)))); done)
    clear hK K
    try simp only [Act.put, List.setIfInBounds_toArray, List.set_cons_zero, List.set_cons_succ]
    clear kG_2_0 fG_2_0 kG_2_1 fG_2_1 kG_2_2 fG_2_2 kG_2_3 fG_2_3 kG_2_4 fG_2_4
    refine wpAnyH_done (by kernel_rfl) ?_ _
    refine NoPanic.normal ?_
    go_wp2_with fail
    refine (C_spec_SecretOf _ _ l _ by_ (Ty.rd_below (by (repeat' (first | (with_reducible exact Below.refl _ _) | (with_reducible assumption) | (with_reducible refine bel_set ?_ (by (try dsimp only); omega) _) | (with_reducible refine bel_alloc ?_ _) | (with_reducible refine bel_drewN ?_ _) | (with_reducible refine bel_drew ?_) | (with_reducible refine bel_trans ?_ (by assumption)))); done) (Ty.rd_below hvb h0)) (Ty.rd_below (by (repeat' (first | (with_reducible exact Below.refl _ _) | (with_reducible assumption) | (with_reducible refine bel_set ?_ (by (try dsimp only); omega) _) | (with_reducible refine bel_alloc ?_ _) | (with_reducible refine bel_drewN ?_ _) | (with_reducible refine bel_drew ?_) | (with_reducible refine bel_trans ?_ (by assumption)))); done) (Ty.rd_below hvb h1)) s0 s1).mono ?_
    rintro e w4 ⟨rfl, hb4⟩
    have hz4 := hb4.size
    try simp only [World.size_alloc, World.size_setCell, World.size_drew, size_drewN] at hz4
    have hx4 : Below WX.heap.size WX w4 := (by (repeat' (first | (with_reducible exact Below.refl _ _) | (with_reducible assumption) | (with_reducible refine bel_set ?_ (by (try dsimp only); omega) _) | (with_reducible refine bel_alloc ?_ _) | (with_reducible refine bel_drewN ?_ _) | (with_reducible refine bel_drew ?_) | (with_reducible refine bel_trans ?_ (by assumption)))); done)
    have hw4 : Below w.heap.size w w4 := bel_trans hvb hx4
    have hX4 : Blk w4 (WX.heap.size) 34 #[.slice Ad0 (List.length X.1) cd0, .slice Ad1 (List.length X.2.1) cd1, .slice Ad2 (List.length X.2.2.1) cd2, .int .i64 X.2.2.2.1, .int .i64 X.2.2.2.2] := by
      refine Blk.below (w := _) (B := _) ?_ hb4 (by simp only [World.size_alloc, World.size_setCell, World.size_drew, size_drewN]; omega)
      exact ((((hG2.set_ 0 _).set_ 1 _).set_ 2 _).set_ 3 _).set_ 4 _
    obtain ⟨hK4, hN4, hR4⟩ := HB.out _ (hx4)
    have kR_4_0 : w4.cell? ⟨w.heap.size + 1 + 1, 0, none⟩ = some (.slice none 0 0) := hR4.cell 0
    have fR_4_0 : w4.frozen? ⟨w.heap.size + 1 + 1, 0, none⟩ = false := hR4.frozen 0
    have kR_4_1 : w4.cell? ⟨w.heap.size + 1 + 1, 1, none⟩ = some (.slice none 0 0) := hR4.cell 1
    have fR_4_1 : w4.frozen? ⟨w.heap.size + 1 + 1, 1, none⟩ = false := hR4.frozen 1
    have kR_4_2 : w4.cell? ⟨w.heap.size + 1 + 1, 2, none⟩ = some (.slice none 0 0) := hR4.cell 2
    have fR_4_2 : w4.frozen? ⟨w.heap.size + 1 + 1, 2, none⟩ = false := hR4.frozen 2
    have kR_4_3 : w4.cell? ⟨w.heap.size + 1 + 1, 3, none⟩ = some (.int .i64 0) := hR4.cell 3
    have fR_4_3 : w4.frozen? ⟨w.heap.size + 1 + 1, 3, none⟩ = false := hR4.frozen 3
    have kR_4_4 : w4.cell? ⟨w.heap.size + 1 + 1, 4, none⟩ = some (.int .i64 0) := hR4.cell 4
    have fR_4_4 : w4.frozen? ⟨w.heap.size + 1 + 1, 4, none⟩ = false := hR4.frozen 4
    have zR_4 : w.heap.size + 1 + 1 < w4.heap.size := hR4.lt
    have kX_4_0 : w4.cell? ⟨WX.heap.size, 0, none⟩ = some (.slice Ad0 (List.length X.1) cd0) := hX4.cell 0
    have fX_4_0 : w4.frozen? ⟨WX.heap.size, 0, none⟩ = false := hX4.frozen 0
    have kX_4_1 : w4.cell? ⟨WX.heap.size, 1, none⟩ = some (.slice Ad1 (List.length X.2.1) cd1) := hX4.cell 1
    have fX_4_1 : w4.frozen? ⟨WX.heap.size, 1, none⟩ = false := hX4.frozen 1
    have kX_4_2 : w4.cell? ⟨WX.heap.size, 2, none⟩ = some (.slice Ad2 (List.length X.2.2.1) cd2) := hX4.cell 2
    have fX_4_2 : w4.frozen? ⟨WX.heap.size, 2, none⟩ = false := hX4.frozen 2
    have kX_4_3 : w4.cell? ⟨WX.heap.size, 3, none⟩ = some (.int .i64 X.2.2.2.1) := hX4.cell 3
    have fX_4_3 : w4.frozen? ⟨WX.heap.size, 3, none⟩ = false := hX4.frozen 3
    have kX_4_4 : w4.cell? ⟨WX.heap.size, 4, none⟩ = some (.int .i64 X.2.2.2.2) := hX4.cell 4
    have fX_4_4 : w4.frozen? ⟨WX.heap.size, 4, none⟩ = false := hX4.frozen 4
    have zX_4 : WX.heap.size < w4.heap.size := hX4.lt
    by_cases hz : f_SecretOf l by_ = 0
    · have q0 : (f_SecretOf l by_ == 0) = true := by simp [hz]
      have HFF : Hid (F1 = false) := by show _ = _; rw [HF1.out, hz]; rfl
      clear hz
      go_wp2
      refine bodyPost_ret (v := .tuple #[.agg #[.slice none 0 0, .slice none 0 0, .slice none 0 0, .int .i64 0, .int .i64 0], .bool false]) (by simp [results, Tryz.results36, go_sem, kR_4_0, fR_4_0, kR_4_1, fR_4_1, kR_4_2, fR_4_2, kR_4_3, fR_4_3, kR_4_4, fR_4_4, kX_4_0, fX_4_0, kX_4_1, fX_4_1, kX_4_2, fX_4_2, kX_4_3, fX_4_3, kX_4_4, fX_4_4, zR_4, zX_4]) rfl ?_
      rw [HNO.out HFF.out, HFF.out]
      exact ⟨_, _, rfl, ow_zeroData _, fr_zero _ _, (by (repeat' (first | (with_reducible exact Below.refl _ _) | (with_reducible assumption) | (with_reducible refine bel_set ?_ (by (try dsimp only); omega) _) | (with_reducible refine bel_alloc ?_ _) | (with_reducible refine bel_drewN ?_ _) | (with_reducible refine bel_drew ?_) | (with_reducible refine bel_trans ?_ (by assumption)))); done)⟩
    have q0 : (f_SecretOf l by_ == 0) = false := by simp [hz]
    have HZ : Hid (decide (f_SecretOf l by_ = 0) = false) := by show _ = _; simp [hz]
    clear hz
    go_wp2_with fail
    refine (C_spec_ValidDataG _ _ X (Ty.rd_below hb4 (Ty.ow_rd (Ty.ow_keep (by intro b hb'; have hb'' := (hfrx).2 b hb'; (try simp only [World.size_alloc, World.size_setCell, size_drewN, World.size_drew] at hb''); repeat (first | (with_reducible rfl) | (rw [Below.heap_setCell _ _ _ _ (by (try dsimp only); omega)]) | (rw [Below.heap_alloc _ _ _ (by (try simp only [World.size_alloc, World.size_setCell]); omega)]))) howx)))).mono ?_
    rintro e w5 ⟨rfl, hb5⟩
    have hz5 := hb5.size
    have hx5 : Below WX.heap.size WX w5 := bel_trans hx4 hb5
    have hw5 : Below w.heap.size w w5 := bel_trans hvb hx5
    clear kR_4_0 fR_4_0 kR_4_1 fR_4_1 kR_4_2 fR_4_2 kR_4_3 fR_4_3 kR_4_4 fR_4_4 kX_4_0 fX_4_0 kX_4_1 fX_4_1 kX_4_2 fX_4_2 kX_4_3 fX_4_3 kX_4_4 fX_4_4
    obtain ⟨hK5, hN5, hR5⟩ := HB.out _ (hx5)
    have hX5 : Blk w5 (WX.heap.size) 34 #[.slice Ad0 (List.length X.1) cd0, .slice Ad1 (List.length X.2.1) cd1, .slice Ad2 (List.length X.2.2.1) cd2, .int .i64 X.2.2.2.1, .int .i64 X.2.2.2.2] := hX4.below hb5 (hX4.lt)
    have kR_5_0 : w5.cell? ⟨w.heap.size + 1 + 1, 0, none⟩ = some (.slice none 0 0) := hR5.cell 0
    have fR_5_0 : w5.frozen? ⟨w.heap.size + 1 + 1, 0, none⟩ = false := hR5.frozen 0
    have kR_5_1 : w5.cell? ⟨w.heap.size + 1 + 1, 1, none⟩ = some (.slice none 0 0) := hR5.cell 1
    have fR_5_1 : w5.frozen? ⟨w.heap.size + 1 + 1, 1, none⟩ = false := hR5.frozen 1
    have kR_5_2 : w5.cell? ⟨w.heap.size + 1 + 1, 2, none⟩ = some (.slice none 0 0) := hR5.cell 2
    have fR_5_2 : w5.frozen? ⟨w.heap.size + 1 + 1, 2, none⟩ = false := hR5.frozen 2
    have kR_5_3 : w5.cell? ⟨w.heap.size + 1 + 1, 3, none⟩ = some (.int .i64 0) := hR5.cell 3
    have fR_5_3 : w5.frozen? ⟨w.heap.size + 1 + 1, 3, none⟩ = false := hR5.frozen 3
    have kR_5_4 : w5.cell? ⟨w.heap.size + 1 + 1, 4, none⟩ = some (.int .i64 0) := hR5.cell 4
    have fR_5_4 : w5.frozen? ⟨w.heap.size + 1 + 1, 4, none⟩ = false := hR5.frozen 4
    have zR_5 : w.heap.size + 1 + 1 < w5.heap.size := hR5.lt
    have kX_5_0 : w5.cell? ⟨WX.heap.size, 0, none⟩ = some (.slice Ad0 (List.length X.1) cd0) := hX5.cell 0
    have fX_5_0 : w5.frozen? ⟨WX.heap.size, 0, none⟩ = false := hX5.frozen 0
    have kX_5_1 : w5.cell? ⟨WX.heap.size, 1, none⟩ = some (.slice Ad1 (List.length X.2.1) cd1) := hX5.cell 1
    have fX_5_1 : w5.frozen? ⟨WX.heap.size, 1, none⟩ = false := hX5.frozen 1
    have kX_5_2 : w5.cell? ⟨WX.heap.size, 2, none⟩ = some (.slice Ad2 (List.length X.2.2.1) cd2) := hX5.cell 2
    have fX_5_2 : w5.frozen? ⟨WX.heap.size, 2, none⟩ = false := hX5.frozen 2
    have kX_5_3 : w5.cell? ⟨WX.heap.size, 3, none⟩ = some (.int .i64 X.2.2.2.1) := hX5.cell 3
    have fX_5_3 : w5.frozen? ⟨WX.heap.size, 3, none⟩ = false := hX5.frozen 3
    have kX_5_4 : w5.cell? ⟨WX.heap.size, 4, none⟩ = some (.int .i64 X.2.2.2.2) := hX5.cell 4
    have fX_5_4 : w5.frozen? ⟨WX.heap.size, 4, none⟩ = false := hX5.frozen 4
    have zX_5 : WX.heap.size < w5.heap.size := hX5.lt
    cases q1 : f_ValidData X
    · have HFF : Hid (F1 = false) := by show _ = _; rw [HF1.out, HZ.out, q1]; rfl
      clear q1
      go_wp2
      refine bodyPost_ret (v := .tuple #[.agg #[.slice none 0 0, .slice none 0 0, .slice none 0 0, .int .i64 0, .int .i64 0], .bool false]) (by simp [results, Tryz.results36, go_sem, kR_5_0, fR_5_0, kR_5_1, fR_5_1, kR_5_2, fR_5_2, kR_5_3, fR_5_3, kR_5_4, fR_5_4, kX_5_0, fX_5_0, kX_5_1, fX_5_1, kX_5_2, fX_5_2, kX_5_3, fX_5_3, kX_5_4, fX_5_4, zR_5, zX_5]) rfl ?_
      rw [HNO.out HFF.out, HFF.out]
      exact ⟨_, _, rfl, ow_zeroData _, fr_zero _ _, (by (repeat' (first | (with_reducible exact Below.refl _ _) | (with_reducible assumption) | (with_reducible refine bel_set ?_ (by (try dsimp only); omega) _) | (with_reducible refine bel_alloc ?_ _) | (with_reducible refine bel_drewN ?_ _) | (with_reducible refine bel_drew ?_) | (with_reducible refine bel_trans ?_ (by assumption)))); done)⟩
    · have HFF : Hid (F1 = true) := by show _ = _; rw [HF1.out, HZ.out, q1]; rfl
      clear q1
      go_wp2
      refine bodyPost_ret (v := .tuple #[.agg #[.slice Ad0 (List.length X.1) cd0, .slice Ad1 (List.length X.2.1) cd1, .slice Ad2 (List.length X.2.2.1) cd2, .int .i64 X.2.2.2.1, .int .i64 X.2.2.2.2], .bool true]) (by simp [results, Tryz.results36, go_sem, kR_5_0, fR_5_0, kR_5_1, fR_5_1, kR_5_2, fR_5_2, kR_5_3, fR_5_3, kR_5_4, fR_5_4, kX_5_0, fX_5_0, kX_5_1, fX_5_1, kX_5_2, fX_5_2, kX_5_3, fX_5_3, kX_5_4, fX_5_4, zR_5, zX_5]) rfl ?_
      rw [HYES.out HFF.out, HFF.out]
      exact ⟨_, fpx, rfl, Ty.ow_keep (by intro b hb'; have hb'' := (hfrx).2 b hb'; (try simp only [World.size_alloc, World.size_setCell, size_drewN, World.size_drew] at hb''); repeat (first | (with_reducible rfl) | (rw [Below.heap_setCell _ _ _ _ (by (try dsimp only); omega)]) | (rw [Below.heap_alloc _ _ _ (by (try simp only [World.size_alloc, World.size_setCell]); omega)]) | (rw [hb5.block _ (by (try simp only [World.size_alloc, World.size_setCell, size_drewN, World.size_drew]); omega)]) | (rw [hb4.block _ (by (try simp only [World.size_alloc, World.size_setCell, size_drewN, World.size_drew]); omega)]))) howx, hfrx.mono (by (try simp only [World.size_alloc, World.size_drew, size_drewN] at *); omega) (by (try simp only [World.size_alloc, World.size_setCell, size_drewN, World.size_drew]); omega), (by (repeat' (first | (with_reducible exact Below.refl _ _) | (with_reducible assumption) | (with_reducible refine bel_set ?_ (by (try dsimp only); omega) _) | (with_reducible refine bel_alloc ?_ _) | (with_reducible refine bel_drewN ?_ _) | (with_reducible refine bel_drew ?_) | (with_reducible refine bel_trans ?_ (by assumption)))); done)⟩
theorem C_impl_SignWithKey (w : World) (v0 : Value) (l : List (Ty.D tKey)) (cs1 : List Value) (by_ : List (List UInt8)) (cs2 : List Value) (n : List (List UInt8)) (v3 : Value) (b : List UInt8) (till : Int) (h0 : (Ty.sl tKey).rd w [v0] l) (h1 : (Ty.sl .str).rd w cs1 by_) (h2 : (Ty.sl .str).rd w cs2 n) (h3 : (Ty.sl .byte).rd w [v3] b) (s0 : Ty.bulk (.sl tKey) l ≤ 1048576) (s1 : Ty.bulk (.sl .str) by_ ≤ 1048576) (s2 : Ty.bulk (.sl .str) n ≤ 1048576) (s3 : Ty.bulk (.sl .byte) b ≤ 1048576) (i4 : -9223372036854775808 ≤ till ∧ till ≤ 9223372036854775807) :
    Calls Tryz.prog 34 #[v0, .agg cs1.toArray, .agg cs2.toArray, v3, .int .i64 till] w (RetAgg2 w tData (f0_SignWithKey l by_ n b till) (.bool (f1_SignWithKey l by_ n b till))) := C_impl_SignWithKeyB w v0 l cs1 by_ cs2 n v3 b till h0 h1 h2 h3 s0 s1 s2 s3 i4
theorem C_spec_SignWithKey (w : World) (v0 : Value) (l : List (Ty.D tKey)) (cs1 : List Value) (by_ : List (List UInt8)) (cs2 : List Value) (n : List (List UInt8)) (v3 : Value) (b : List UInt8) (till : Int) (h0 : (Ty.sl tKey).rd w [v0] l) (h1 : (Ty.sl .str).rd w cs1 by_) (h2 : (Ty.sl .str).rd w cs2 n) (h3 : (Ty.sl .byte).rd w [v3] b) (s0 : Ty.bulk (.sl tKey) l ≤ 1048576) (s1 : Ty.bulk (.sl .str) by_ ≤ 1048576) (s2 : Ty.bulk (.sl .str) n ≤ 1048576) (s3 : Ty.bulk (.sl .byte) b ≤ 1048576) (i4 : -9223372036854775808 ≤ till ∧ till ≤ 9223372036854775807) :
    Calls Tryz.prog 36 #[v0, .agg cs1.toArray, .agg cs2.toArray, v3, .int .i64 till] w (RetAgg2 w tData (f0_SignWithKey l by_ n b till) (.bool (f1_SignWithKey l by_ n b till))) := C_spec_SignWithKeyB w v0 l cs1 by_ cs2 n v3 b till h0 h1 h2 h3 s0 s1 s2 s3 i4
end Go.Proofs.YtldgbnlcnlfmeaaGreat

/- The plain laws of FnKeys. No program in sight. -/
namespace Go.Proofs.YtldgbnlcnlfmeaaGreat
open Go.RowKit
set_option linter.unusedVariables false
set_option linter.unusedSimpArgs false

theorem vk_at {l : List (Ty.D tKey)} (h : f_ValidKeys l = true) {i : Nat} (hi : i < l.length) : keyAt l i l[i] = true := by
  unfold f_ValidKeys at h
  simp only [Bool.and_eq_true] at h
  have := List.all_eq_true.1 h.1 i (List.mem_range.2 hi)
  rwa [vkP_at hi] at this
theorem add_keys {a : List (Ty.D tKey)} {k : Ty.D tKey} (h : f1_AddKey a k = true) : f_SecretOf (f0_AddKey a k) k.1 = k.2 ∧ f_ValidKeys (f0_AddKey a k) = true := by
  have hv : f_ValidKeys (a ++ [k]) = true := h
  have he : f0_AddKey a k = a ++ [k] := by unfold f0_AddKey; rw [if_pos hv]
  rw [he]
  refine ⟨?_, hv⟩
  have hk := vk_at hv (i := a.length) (by simp)
  have hg : (a ++ [k])[a.length]'(by simp) = k := by simp
  rw [hg] at hk
  unfold keyAt at hk
  simp only [Bool.and_eq_true, Bool.not_eq_true'] at hk
  have hn := hk.2.2.2.1
  rw [List.take_left' rfl] at hn
  have hf : a.find? (sameName k.1) = none := List.find?_eq_none.2 (fun x hx => by have := List.any_eq_false.1 hn x hx; exact this)
  unfold f_SecretOf
  have hs : sameName k.1 k = true := by unfold sameName; simp
  rw [List.find?_append, hf, List.find?_cons_of_pos hs]
  rfl
theorem secret_mem {l : List (Ty.D tKey)} {n : List (List UInt8)} (h : f_SecretOf l n ≠ 0) : ∃ i, ∃ hi : i < l.length, l[i].2 = f_SecretOf l n := by
  unfold f_SecretOf at h ⊢
  cases q : l.find? (sameName n) with
  | none => rw [q] at h; exact absurd rfl h
  | some k =>
    have hm := List.mem_of_find?_eq_some q
    obtain ⟨i, hi, he⟩ := List.getElem_of_mem hm
    exact ⟨i, hi, by rw [he]⟩
theorem swk_signs {l : List (Ty.D tKey)} {by_ n : List (List UInt8)} {b : List UInt8} {till : Int} (h : f1_SignWithKey l by_ n b till = true) (hv : f_ValidKeys l = true) :
    f_VerifySignature l (f0_SignWithKey l by_ n b till) = true ∧ 1 ≤ (f_MatchingKeys l (f0_SignWithKey l by_ n b till)).length ∧ f_ValidData (f0_SignWithKey l by_ n b till) = true ∧ (f0_SignWithKey l by_ n b till).2.1 = b := by
  have h' := h
  unfold f1_SignWithKey at h'
  simp only [Bool.and_eq_true, Bool.not_eq_true', decide_eq_false_iff_not] at h'
  obtain ⟨i, hi, hs⟩ := secret_mem h'.1
  have hk := vk_at hv hi
  unfold keyAt at hk
  simp only [Bool.and_eq_true] at hk
  have hr := hk.2.2.1
  rw [swk_yes h]
  have hver : f_VerifyData (f_SecretOf l by_) (swkX l by_ n b till) = true := by
    unfold f_VerifyData
    rw [← hs, hr, hs]
    simp only [Bool.true_and, decide_eq_true_eq]
    rfl
  refine ⟨hver, ?_, h'.2, rfl⟩
  unfold f_MatchingKeys mkIdx
  rw [List.length_map]
  refine List.length_pos_of_mem (a := i) (List.mem_filter.2 ⟨List.mem_range.2 hi, ?_⟩)
  unfold mkP
  rw [List.getElem?_eq_getElem hi]
  show f_VerifyData l[i].2 _ = true
  rw [hs]; exact hver
theorem swk_none {l : List (Ty.D tKey)} {by_ n : List (List UInt8)} {b : List UInt8} {till : Int} (h : f1_SignWithKey l by_ n b till = false) : f0_SignWithKey l by_ n b till = zeroData := swk_no h
end Go.Proofs.YtldgbnlcnlfmeaaGreat
