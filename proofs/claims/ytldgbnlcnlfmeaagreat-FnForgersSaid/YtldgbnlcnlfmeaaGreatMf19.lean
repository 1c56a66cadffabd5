/- Proved here: the given statement FnForgersSaid: without a secret of a key that may sign a name, nobody makes trusted data of this name; the law returns true for all inputs. Conditions: none. -/
/- Texts of this claim, merged by a program: Dmd Old Lat LFnForgers ClFnForgers. -/
import Derived.Test.YtldgbnlcnlfmeaaGreatMf18
import Derived.Deep.RegionHeld3
import Derived.Test.YtldgbnlcnlfmeaaGreatMf14
import Derived.Test.YtldgbnlcnlfmeaaGreatMf1
import Derived.Test.YtldgbnlcnlfmeaaGreatMf0
import Derived.BigQuiet
import Derived.Test.YtldgbnlcnlfmeaaGreatMf7
import Derived.ShutString
/- What is believed, and a thing, drawn. Printed by gen61.py. -/
namespace Go.Proofs.YtldgbnlcnlfmeaaGreat
open Go.RowKit
set_option linter.unusedVariables false
set_option linter.unusedSimpArgs false

set_option maxRecDepth 100000 in
set_option maxHeartbeats 2000000 in
theorem C_spec_DrawMade (w : World) (v : Value) (b : List UInt8) (h : (Ty.sl .byte).rd w [v] b) :
    Calls Tryz.prog 32 #[v] w (fun e w' => ∃ cs1 t cs2 x, e = .returned (.tuple #[.agg cs1.toArray, .agg cs2.toArray]) ∧ tTrustPolicy.rd w' cs1 t ∧ tData.rd w' cs2 x ∧ okTrust t ∧ okMade x ∧ Below w.heap.size w w') := by
  obtain ⟨Ac, cc, rfl, _, _, _⟩ := Ty.rd_sl h
  go_enter Tryz.func32, Tryz.ntmps32
  go_wp2_with fail
  refine (C_spec_l1New _ _ b (Ty.rd_below (by repeat' (first | (with_reducible exact Below.refl _ _) | (with_reducible assumption) | (with_reducible refine bel_set ?_ (by (try dsimp only); omega) _) | (with_reducible refine bel_alloc ?_ _) | (with_reducible refine bel_drewN ?_ _) | (with_reducible refine bel_drew ?_))) h)).mono ?_
  rintro e w1 ⟨rfl, hb1, hc1⟩
  simp only [World.size_alloc] at hc1 ⊢
  have z1 := hc1.lt
  have hO1 : Blk w1 w.heap.size 29 #[.slice none 0 0, .slice none 0 0, .slice none 0 0, .slice none 0 0] := ((Blk.new w _ _).alloc _).below hb1 (by simp only [World.size_alloc]; omega)
  have hP1 : Blk w1 (w.heap.size + 1) 34 #[.slice none 0 0, .slice none 0 0, .slice none 0 0, .int .i64 0, .int .i64 0] := (by have := Blk.new (w.alloc (.cells #[.slice none 0 0, .slice none 0 0, .slice none 0 0, .slice none 0 0] 29)) 34 #[.slice none 0 0, .slice none 0 0, .slice none 0 0, .int .i64 0, .int .i64 0]; rw [World.size_alloc] at this; exact this.below hb1 (by simp only [World.size_alloc]; omega))
  have D1 : Dr (w.heap.size + 1 + 1) w w1 := Dr.of (bel_trans (by repeat' (first | (with_reducible exact Below.refl _ _) | (with_reducible assumption) | (with_reducible refine bel_set ?_ (by (try dsimp only); omega) _) | (with_reducible refine bel_alloc ?_ _) | (with_reducible refine bel_drewN ?_ _) | (with_reducible refine bel_drew ?_))) hb1) _
  clear hb1
  go_wp2_with fail
  refine (C_spec_l11Trust _ (w.heap.size + 1 + 1) (by repeat' (first | (with_reducible assumption) | (with_reducible refine Cur.far ?_ (by (try dsimp only); omega) _) | (with_reducible refine Cur.alloc ?_ _) | (with_reducible refine Cur.drewN ?_ _) | (with_reducible refine Cur.drew ?_)))).mono ?_
  rintro e w2 ⟨hd2, hc2, v1, v2, v3, v4, t, f1, f2, f3, f4, m1, m2, rfl, p1, p2, p3, p4, hf1, hf3, hf2, hf4, hm1, hm2, hok⟩
  have z2 := hd2.size
  have D2 := D1.trans hd2
  have hO2 := Dr.blk hd2 hO1 (by omega)
  have hP2 := Dr.blk hd2 hP1 (by omega)
  obtain ⟨A1, c1, e1⟩ := Ty.ow_slv p1
  obtain ⟨A2, c2, e2⟩ := Ty.ow_slv p2
  obtain ⟨A3, c3, e3⟩ := Ty.ow_slv p3
  obtain ⟨A4, c4, e4⟩ := Ty.ow_slv p4
  simp only [List.cons.injEq, and_true] at e1 e2 e3 e4
  subst e1 e2 e3 e4
  have q1 : RdI (.sl tKey) w1.heap.size w2.heap.size w2 _ t.1 := RdI.of_ow p1 (fun b hb => ⟨(hf1.2 b hb).1, Ty.ow_lt p1 b hb⟩) (Nat.le_refl _)
  have q2 : RdI (.sl tRule) w1.heap.size w2.heap.size w2 _ t.2.1 := RdI.of_ow p2 (fun b hb => ⟨by have := (hf2.2 b hb).1; omega, Ty.ow_lt p2 b hb⟩) (Nat.le_refl _)
  have q3 : RdI (.sl (.sl .str)) w1.heap.size w2.heap.size w2 _ t.2.2.1 := RdI.of_ow p3 (fun b hb => ⟨(hf3.2 b hb).1, Ty.ow_lt p3 b hb⟩) (Nat.le_refl _)
  have q4 : RdI (.sl tData) w1.heap.size w2.heap.size w2 _ t.2.2.2 := RdI.of_ow p4 (fun b hb => ⟨by have := (hf4.2 b hb).1; omega, Ty.ow_lt p4 b hb⟩) (Nat.le_refl _)
  have QT : RdI tTrustPolicy w1.heap.size w2.heap.size w2 [.slice A1 (List.length t.1) c1, .slice A2 (List.length t.2.1) c2, .slice A3 (List.length t.2.2.1) c3, .slice A4 (List.length t.2.2.2) c4] t := RdI.pr q1 (RdI.pr q2 (RdI.pr q3 q4))
  obtain ⟨WT, hWT⟩ : ∃ WT, WT = w2.alloc (.cells #[.slice A1 (List.length t.1) c1, .slice A2 (List.length t.2.1) c2, .slice A3 (List.length t.2.2.1) c3, .slice A4 (List.length t.2.2.2) c4] 29) := ⟨_, rfl⟩
  have ET : Dr (w.heap.size + 1 + 1) w2 WT := by rw [hWT]; exact (by repeat' (first | (with_reducible exact Dr.refl _ _) | (with_reducible assumption) | (with_reducible refine Dr.set ?_ (by (try dsimp only); omega) _) | (with_reducible refine Dr.alloc ?_ _) | (with_reducible refine Dr.drewN ?_ _) | (with_reducible refine Dr.drew ?_) | (with_reducible refine Dr.trans ?_ (by assumption))))
  have hcT : CurT WT (w.heap.size + 1 + 1) := by rw [hWT]; exact (by repeat' (first | (with_reducible assumption) | (with_reducible refine Cur.far ?_ (by (try dsimp only); omega) _) | (with_reducible refine Cur.alloc ?_ _) | (with_reducible refine Cur.drewN ?_ _) | (with_reducible refine Cur.drew ?_)))
  have hT : Blk WT w2.heap.size 29 #[.slice A1 (List.length t.1) c1, .slice A2 (List.length t.2.1) c2, .slice A3 (List.length t.2.2.1) c3, .slice A4 (List.length t.2.2.2) c4] := by rw [hWT]; exact Blk.new _ _ _
  have DT := D2.trans ET
  have hOT := Dr.blk ET hO2 (by omega)
  have hPT := Dr.blk ET hP2 (by omega)
  have QTT := QT.dr ET (by omega)
  obtain ⟨n1, hn1⟩ : ∃ n, n = List.length t.1 := ⟨_, rfl⟩
  have hkT : (Ty.sl tKey).rd (hide (w.heap.size + 1 + 1) WT) [.slice A1 n1 c1] t.1 := by rw [hn1]; exact (q1.dr ET (by omega)).hide (by omega)
  rw [hok.1] at hkT
  subst hn1
  have zT := hT.lt
  go_wp2_with fail
  rw [← hWT]
  clear hWT hd2 hc1 hc2 D1 D2 ET hO1 hO2 hP1 hP2 p1 p2 p3 p4 q1 q2 q3 q4 QT hf1 hf2 hf3 hf4
  refine wp_region_noPanic ?_
  refine wp_region_held_drew (S := (fun W => W.cell? ⟨w2.heap.size, 0, none⟩ = some (.slice A1 (List.length t.1) c1) ∧ W.cell? ⟨w2.heap.size, 1, none⟩ = some (.slice A2 (List.length t.2.1) c2) ∧ W.cell? ⟨w2.heap.size, 2, none⟩ = some (.slice A3 (List.length t.2.2.1) c3) ∧ W.cell? ⟨w2.heap.size, 3, none⟩ = some (.slice A4 (List.length t.2.2.2) c4))) (by kernel_rfl) ?_ (fun hHeld => ?_)
  · exact ⟨hT.cell 0, hT.cell 1, hT.cell 2, hT.cell 3⟩
  refine tk 0 (opN rfl) (by kernel_rfl) (by rfl) (by (intro w hSw; (try dsimp only at hSw); go_simp; first | done | with_reducible rfl)) (by assumption) ?_
  try simp only [Act.put, List.setIfInBounds_toArray, List.set_cons_zero, List.set_cons_succ]
  refine tk 1 (opN rfl) (by kernel_rfl) (by rfl) (by (intro w hSw; (try dsimp only at hSw); go_simp; first | done | with_reducible rfl)) (by assumption) ?_
  try simp only [Act.put, List.setIfInBounds_toArray, List.set_cons_zero, List.set_cons_succ]
  refine tk 2 (opN rfl) (by kernel_rfl) (by rfl) (by (intro w hSw; (try dsimp only at hSw); go_simp; first | done | with_reducible rfl)) (by assumption) ?_
  try simp only [Act.put, List.setIfInBounds_toArray, List.set_cons_zero, List.set_cons_succ]
  refine wpAnyH_ready (rs := [3]) (by kernel_rfl) (by simp) ?_
  refine (AllReadyH.cons (opN rfl) (fun K hK => ?_) AllReadyH.nil)
  go_simp
  go_at_call 91
  refine (C_spec_l11Made _ (w.heap.size + 1 + 1) (by repeat' (first | (with_reducible assumption) | (with_reducible refine Cur.far ?_ (by (try dsimp only); omega) _) | (with_reducible refine Cur.alloc ?_ _) | (with_reducible refine Cur.drewN ?_ _) | (with_reducible refine Cur.drew ?_))) _ _ _ _ _ _ _ _ _ _ _ _ (Dr.rd (by repeat' (first | (with_reducible exact Dr.refl _ _) | (with_reducible assumption) | (with_reducible refine Dr.set ?_ (by (try dsimp only); omega) _) | (with_reducible refine Dr.alloc ?_ _) | (with_reducible refine Dr.drewN ?_ _) | (with_reducible refine Dr.drew ?_) | (with_reducible refine Dr.trans ?_ (by assumption)))) hkT)).mono ?_
  rintro e w3 ⟨hd3, hc3, cs3, x, rfl, hx3, hmk⟩
  obtain ⟨B0, d0, B1, d1, B2, d2, rfl, -⟩ := rd_Data hx3.rd
  have z3 := hd3.size
  (try simp only [World.size_drew, size_drewN] at z3)
  have E3 : Dr (w.heap.size + 1 + 1) WT w3 := (by repeat' (first | (with_reducible exact Dr.refl _ _) | (with_reducible assumption) | (with_reducible refine Dr.set ?_ (by (try dsimp only); omega) _) | (with_reducible refine Dr.alloc ?_ _) | (with_reducible refine Dr.drewN ?_ _) | (with_reducible refine Dr.drew ?_) | (with_reducible refine Dr.trans ?_ (by assumption))))
  have D3 := DT.trans E3
  have hT3 := Dr.blk E3 hT (by omega)
  have hO3 := Dr.blk E3 hOT (by omega)
  have hP3 := Dr.blk E3 hPT (by omega)
  have Q3 := QTT.dr E3 (by omega)
  have X3 := hx3.mono (lo' := w1.heap.size) (by (try simp only [World.size_drew, size_drewN]); omega) (Nat.le_refl _) (Nat.le_refl _)
  clear hd3 hx3 E3 QTT hT hOT hPT hkT hcT DT
  refine hK.out _ _ ?_ (fun hHeld => ?_)
  · (try dsimp only)
    exact ⟨hT3.cell 0, hT3.cell 1, hT3.cell 2, hT3.cell 3⟩
  clear hK K
  try simp only [Act.put, List.setIfInBounds_toArray, List.set_cons_zero, List.set_cons_succ]
  refine wpAnyH_ready (rs := [4]) (by kernel_rfl) (by simp) ?_
  refine (AllReadyH.cons (opN rfl) (fun K hK => ?_) AllReadyH.nil)
  have kO0 : w3.cell? ⟨w.heap.size, 0, none⟩ = some (.slice none 0 0) := hO3.cell 0
  have kO1 : w3.cell? ⟨w.heap.size, 1, none⟩ = some (.slice none 0 0) := hO3.cell 1
  have kO2 : w3.cell? ⟨w.heap.size, 2, none⟩ = some (.slice none 0 0) := hO3.cell 2
  have kO3 : w3.cell? ⟨w.heap.size, 3, none⟩ = some (.slice none 0 0) := hO3.cell 3
  have fO0 : w3.frozen? ⟨w.heap.size, 0, none⟩ = false := hO3.f1
  have fO1 : w3.frozen? ⟨w.heap.size, 1, none⟩ = false := hO3.f1
  have fO2 : w3.frozen? ⟨w.heap.size, 2, none⟩ = false := hO3.f1
  have fO3 : w3.frozen? ⟨w.heap.size, 3, none⟩ = false := hO3.f1
  go_simp
  obtain ⟨w4, hw4⟩ : ∃ w4, w4 = ((((w3.setCell ⟨w.heap.size, 0, none⟩ (.slice A1 (List.length t.1) c1)).setCell ⟨w.heap.size, 1, none⟩ (.slice A2 (List.length t.2.1) c2)).setCell ⟨w.heap.size, 2, none⟩ (.slice A3 (List.length t.2.2.1) c3)).setCell ⟨w.heap.size, 3, none⟩ (.slice A4 (List.length t.2.2.2) c4)) := ⟨_, rfl⟩
  rw [← hw4]
  have hO4 : Blk w4 w.heap.size 29 #[.slice A1 (List.length t.1) c1, .slice A2 (List.length t.2.1) c2, .slice A3 (List.length t.2.2.1) c3, .slice A4 (List.length t.2.2.2) c4] := by rw [hw4]; exact (Blk.set_ (Blk.set_ (Blk.set_ (Blk.set_ hO3 0 (.slice A1 (List.length t.1) c1)) 1 (.slice A2 (List.length t.2.1) c2)) 2 (.slice A3 (List.length t.2.2.1) c3)) 3 (.slice A4 (List.length t.2.2.2) c4))
  have D4 : Dr (w.heap.size + 1 + 1) w w4 := by rw [hw4]; exact (Dr.set (Dr.set (Dr.set (Dr.set D3 (p := ⟨w.heap.size, 0, none⟩) (.inr (Nat.le_refl _)) (.slice A1 (List.length t.1) c1)) (p := ⟨w.heap.size, 1, none⟩) (.inr (Nat.le_refl _)) (.slice A2 (List.length t.2.1) c2)) (p := ⟨w.heap.size, 2, none⟩) (.inr (Nat.le_refl _)) (.slice A3 (List.length t.2.2.1) c3)) (p := ⟨w.heap.size, 3, none⟩) (.inr (Nat.le_refl _)) (.slice A4 (List.length t.2.2.2) c4))
  have hP4 : Blk w4 (w.heap.size + 1) 34 #[.slice none 0 0, .slice none 0 0, .slice none 0 0, .int .i64 0, .int .i64 0] := by rw [hw4]; exact (Blk.far (Blk.far (Blk.far (Blk.far hP3 (p := ⟨w.heap.size, 0, none⟩) (by dsimp only; omega) (.slice A1 (List.length t.1) c1)) (p := ⟨w.heap.size, 1, none⟩) (by dsimp only; omega) (.slice A2 (List.length t.2.1) c2)) (p := ⟨w.heap.size, 2, none⟩) (by dsimp only; omega) (.slice A3 (List.length t.2.2.1) c3)) (p := ⟨w.heap.size, 3, none⟩) (by dsimp only; omega) (.slice A4 (List.length t.2.2.2) c4))
  have hT4 : Blk w4 w2.heap.size 29 #[.slice A1 (List.length t.1) c1, .slice A2 (List.length t.2.1) c2, .slice A3 (List.length t.2.2.1) c3, .slice A4 (List.length t.2.2.2) c4] := by rw [hw4]; exact (Blk.far (Blk.far (Blk.far (Blk.far hT3 (p := ⟨w.heap.size, 0, none⟩) (by dsimp only; omega) (.slice A1 (List.length t.1) c1)) (p := ⟨w.heap.size, 1, none⟩) (by dsimp only; omega) (.slice A2 (List.length t.2.1) c2)) (p := ⟨w.heap.size, 2, none⟩) (by dsimp only; omega) (.slice A3 (List.length t.2.2.1) c3)) (p := ⟨w.heap.size, 3, none⟩) (by dsimp only; omega) (.slice A4 (List.length t.2.2.2) c4))
  have Q4 : RdI tTrustPolicy w1.heap.size w2.heap.size w4 [.slice A1 (List.length t.1) c1, .slice A2 (List.length t.2.1) c2, .slice A3 (List.length t.2.2.1) c3, .slice A4 (List.length t.2.2.2) c4] t := by rw [hw4]; exact (RdI.set (RdI.set (RdI.set (RdI.set Q3 (p := ⟨w.heap.size, 0, none⟩) (.inl (by dsimp only; omega)) (.slice A1 (List.length t.1) c1)) (p := ⟨w.heap.size, 1, none⟩) (.inl (by dsimp only; omega)) (.slice A2 (List.length t.2.1) c2)) (p := ⟨w.heap.size, 2, none⟩) (.inl (by dsimp only; omega)) (.slice A3 (List.length t.2.2.1) c3)) (p := ⟨w.heap.size, 3, none⟩) (.inl (by dsimp only; omega)) (.slice A4 (List.length t.2.2.2) c4))
  have X4 : RdI tData w1.heap.size w3.heap.size w4 [.slice B0 (List.length x.1) d0, .slice B1 (List.length x.2.1) d1, .slice B2 (List.length x.2.2.1) d2, .int .i64 x.2.2.2.1, .int .i64 x.2.2.2.2] x := by rw [hw4]; exact (RdI.set (RdI.set (RdI.set (RdI.set X3 (p := ⟨w.heap.size, 0, none⟩) (.inl (by dsimp only; omega)) (.slice A1 (List.length t.1) c1)) (p := ⟨w.heap.size, 1, none⟩) (.inl (by dsimp only; omega)) (.slice A2 (List.length t.2.1) c2)) (p := ⟨w.heap.size, 2, none⟩) (.inl (by dsimp only; omega)) (.slice A3 (List.length t.2.2.1) c3)) (p := ⟨w.heap.size, 3, none⟩) (.inl (by dsimp only; omega)) (.slice A4 (List.length t.2.2.2) c4))
  clear hO3 hP3 hT3 Q3 X3 D3 hw4
  clear kO0 fO0
  clear kO1 fO1
  clear kO2 fO2
  clear kO3 fO3
  refine hK.out _ _ ?_ (fun hHeld => ?_)
  · (try dsimp only)
    exact ⟨hT4.cell 0, hT4.cell 1, hT4.cell 2, hT4.cell 3⟩
  clear hK K
  try simp only [Act.put, List.setIfInBounds_toArray, List.set_cons_zero, List.set_cons_succ]
  refine wpAnyH_ready (rs := [5]) (by kernel_rfl) (by simp) ?_
  refine (AllReadyH.cons (opN rfl) (fun K hK => ?_) AllReadyH.nil)
  have kP0 : w4.cell? ⟨w.heap.size + 1, 0, none⟩ = some (.slice none 0 0) := hP4.cell 0
  have kP1 : w4.cell? ⟨w.heap.size + 1, 1, none⟩ = some (.slice none 0 0) := hP4.cell 1
  have kP2 : w4.cell? ⟨w.heap.size + 1, 2, none⟩ = some (.slice none 0 0) := hP4.cell 2
  have kP3 : w4.cell? ⟨w.heap.size + 1, 3, none⟩ = some (.int .i64 0) := hP4.cell 3
  have kP4 : w4.cell? ⟨w.heap.size + 1, 4, none⟩ = some (.int .i64 0) := hP4.cell 4
  have fP0 : w4.frozen? ⟨w.heap.size + 1, 0, none⟩ = false := hP4.f1
  have fP1 : w4.frozen? ⟨w.heap.size + 1, 1, none⟩ = false := hP4.f1
  have fP2 : w4.frozen? ⟨w.heap.size + 1, 2, none⟩ = false := hP4.f1
  have fP3 : w4.frozen? ⟨w.heap.size + 1, 3, none⟩ = false := hP4.f1
  have fP4 : w4.frozen? ⟨w.heap.size + 1, 4, none⟩ = false := hP4.f1
  go_simp
  obtain ⟨w5, hw5⟩ : ∃ w5, w5 = (((((w4.setCell ⟨w.heap.size + 1, 0, none⟩ (.slice B0 (List.length x.1) d0)).setCell ⟨w.heap.size + 1, 1, none⟩ (.slice B1 (List.length x.2.1) d1)).setCell ⟨w.heap.size + 1, 2, none⟩ (.slice B2 (List.length x.2.2.1) d2)).setCell ⟨w.heap.size + 1, 3, none⟩ (.int .i64 x.2.2.2.1)).setCell ⟨w.heap.size + 1, 4, none⟩ (.int .i64 x.2.2.2.2)) := ⟨_, rfl⟩
  rw [← hw5]
  have hP5 : Blk w5 (w.heap.size + 1) 34 #[.slice B0 (List.length x.1) d0, .slice B1 (List.length x.2.1) d1, .slice B2 (List.length x.2.2.1) d2, .int .i64 x.2.2.2.1, .int .i64 x.2.2.2.2] := by rw [hw5]; exact (Blk.set_ (Blk.set_ (Blk.set_ (Blk.set_ (Blk.set_ hP4 0 (.slice B0 (List.length x.1) d0)) 1 (.slice B1 (List.length x.2.1) d1)) 2 (.slice B2 (List.length x.2.2.1) d2)) 3 (.int .i64 x.2.2.2.1)) 4 (.int .i64 x.2.2.2.2))
  have D5 : Dr (w.heap.size + 1 + 1) w w5 := by rw [hw5]; exact (Dr.set (Dr.set (Dr.set (Dr.set (Dr.set D4 (p := ⟨w.heap.size + 1, 0, none⟩) (.inr (by dsimp only; omega)) (.slice B0 (List.length x.1) d0)) (p := ⟨w.heap.size + 1, 1, none⟩) (.inr (by dsimp only; omega)) (.slice B1 (List.length x.2.1) d1)) (p := ⟨w.heap.size + 1, 2, none⟩) (.inr (by dsimp only; omega)) (.slice B2 (List.length x.2.2.1) d2)) (p := ⟨w.heap.size + 1, 3, none⟩) (.inr (by dsimp only; omega)) (.int .i64 x.2.2.2.1)) (p := ⟨w.heap.size + 1, 4, none⟩) (.inr (by dsimp only; omega)) (.int .i64 x.2.2.2.2))
  have hO5 : Blk w5 w.heap.size 29 #[.slice A1 (List.length t.1) c1, .slice A2 (List.length t.2.1) c2, .slice A3 (List.length t.2.2.1) c3, .slice A4 (List.length t.2.2.2) c4] := by rw [hw5]; exact (Blk.far (Blk.far (Blk.far (Blk.far (Blk.far hO4 (p := ⟨w.heap.size + 1, 0, none⟩) (by dsimp only; omega) (.slice B0 (List.length x.1) d0)) (p := ⟨w.heap.size + 1, 1, none⟩) (by dsimp only; omega) (.slice B1 (List.length x.2.1) d1)) (p := ⟨w.heap.size + 1, 2, none⟩) (by dsimp only; omega) (.slice B2 (List.length x.2.2.1) d2)) (p := ⟨w.heap.size + 1, 3, none⟩) (by dsimp only; omega) (.int .i64 x.2.2.2.1)) (p := ⟨w.heap.size + 1, 4, none⟩) (by dsimp only; omega) (.int .i64 x.2.2.2.2))
  have hT5 : Blk w5 w2.heap.size 29 #[.slice A1 (List.length t.1) c1, .slice A2 (List.length t.2.1) c2, .slice A3 (List.length t.2.2.1) c3, .slice A4 (List.length t.2.2.2) c4] := by rw [hw5]; exact (Blk.far (Blk.far (Blk.far (Blk.far (Blk.far hT4 (p := ⟨w.heap.size + 1, 0, none⟩) (by dsimp only; omega) (.slice B0 (List.length x.1) d0)) (p := ⟨w.heap.size + 1, 1, none⟩) (by dsimp only; omega) (.slice B1 (List.length x.2.1) d1)) (p := ⟨w.heap.size + 1, 2, none⟩) (by dsimp only; omega) (.slice B2 (List.length x.2.2.1) d2)) (p := ⟨w.heap.size + 1, 3, none⟩) (by dsimp only; omega) (.int .i64 x.2.2.2.1)) (p := ⟨w.heap.size + 1, 4, none⟩) (by dsimp only; omega) (.int .i64 x.2.2.2.2))
  have Q5 : RdI tTrustPolicy w1.heap.size w2.heap.size w5 [.slice A1 (List.length t.1) c1, .slice A2 (List.length t.2.1) c2, .slice A3 (List.length t.2.2.1) c3, .slice A4 (List.length t.2.2.2) c4] t := by rw [hw5]; exact (RdI.set (RdI.set (RdI.set (RdI.set (RdI.set Q4 (p := ⟨w.heap.size + 1, 0, none⟩) (.inl (by dsimp only; omega)) (.slice B0 (List.length x.1) d0)) (p := ⟨w.heap.size + 1, 1, none⟩) (.inl (by dsimp only; omega)) (.slice B1 (List.length x.2.1) d1)) (p := ⟨w.heap.size + 1, 2, none⟩) (.inl (by dsimp only; omega)) (.slice B2 (List.length x.2.2.1) d2)) (p := ⟨w.heap.size + 1, 3, none⟩) (.inl (by dsimp only; omega)) (.int .i64 x.2.2.2.1)) (p := ⟨w.heap.size + 1, 4, none⟩) (.inl (by dsimp only; omega)) (.int .i64 x.2.2.2.2))
  have X5 : RdI tData w1.heap.size w3.heap.size w5 [.slice B0 (List.length x.1) d0, .slice B1 (List.length x.2.1) d1, .slice B2 (List.length x.2.2.1) d2, .int .i64 x.2.2.2.1, .int .i64 x.2.2.2.2] x := by rw [hw5]; exact (RdI.set (RdI.set (RdI.set (RdI.set (RdI.set X4 (p := ⟨w.heap.size + 1, 0, none⟩) (.inl (by dsimp only; omega)) (.slice B0 (List.length x.1) d0)) (p := ⟨w.heap.size + 1, 1, none⟩) (.inl (by dsimp only; omega)) (.slice B1 (List.length x.2.1) d1)) (p := ⟨w.heap.size + 1, 2, none⟩) (.inl (by dsimp only; omega)) (.slice B2 (List.length x.2.2.1) d2)) (p := ⟨w.heap.size + 1, 3, none⟩) (.inl (by dsimp only; omega)) (.int .i64 x.2.2.2.1)) (p := ⟨w.heap.size + 1, 4, none⟩) (.inl (by dsimp only; omega)) (.int .i64 x.2.2.2.2))
  clear hO4 hP4 hT4 Q4 X4 D4 hw5
  clear kP0 fP0
  clear kP1 fP1
  clear kP2 fP2
  clear kP3 fP3
  clear kP4 fP4
  refine hK.out _ _ ?_ (fun hHeld => ?_)
  · (try dsimp only)
    exact ⟨hT5.cell 0, hT5.cell 1, hT5.cell 2, hT5.cell 3⟩
  clear hK K
  try simp only [Act.put, List.setIfInBounds_toArray, List.set_cons_zero, List.set_cons_succ]
  refine wpAnyH_done (by kernel_rfl) ?_ _
  refine NoPanic.normal ?_
  have jO0 : w5.cell? ⟨w.heap.size, 0, none⟩ = some (.slice A1 (List.length t.1) c1) := hO5.cell 0
  have jO1 : w5.cell? ⟨w.heap.size, 1, none⟩ = some (.slice A2 (List.length t.2.1) c2) := hO5.cell 1
  have jO2 : w5.cell? ⟨w.heap.size, 2, none⟩ = some (.slice A3 (List.length t.2.2.1) c3) := hO5.cell 2
  have jO3 : w5.cell? ⟨w.heap.size, 3, none⟩ = some (.slice A4 (List.length t.2.2.2) c4) := hO5.cell 3
  have jP0 : w5.cell? ⟨w.heap.size + 1, 0, none⟩ = some (.slice B0 (List.length x.1) d0) := hP5.cell 0
  have jP1 : w5.cell? ⟨w.heap.size + 1, 1, none⟩ = some (.slice B1 (List.length x.2.1) d1) := hP5.cell 1
  have jP2 : w5.cell? ⟨w.heap.size + 1, 2, none⟩ = some (.slice B2 (List.length x.2.2.1) d2) := hP5.cell 2
  have jP3 : w5.cell? ⟨w.heap.size + 1, 3, none⟩ = some (.int .i64 x.2.2.2.1) := hP5.cell 3
  have jP4 : w5.cell? ⟨w.heap.size + 1, 4, none⟩ = some (.int .i64 x.2.2.2.2) := hP5.cell 4
  go_wp2
  refine bodyPost_ret (v := .tuple #[.agg #[.slice A1 (List.length t.1) c1, .slice A2 (List.length t.2.1) c2, .slice A3 (List.length t.2.2.1) c3, .slice A4 (List.length t.2.2.2) c4], .agg #[.slice B0 (List.length x.1) d0, .slice B1 (List.length x.2.1) d1, .slice B2 (List.length x.2.2.1) d2, .int .i64 x.2.2.2.1, .int .i64 x.2.2.2.2]]) (by simp [results, Tryz.results32, go_sem, jO0, jO1, jO2, jO3, jP0, jP1, jP2, jP3, jP4]) rfl ?_
  exact ⟨_, t, _, x, rfl, Q5.rd, X5.rd, hok, hmk, Dr.below D5 (by omega) (Nat.le_refl _)⟩
end Go.Proofs.YtldgbnlcnlfmeaaGreat

/- Papers that have expired, and forgers: the plain laws. No program in sight. -/
namespace Go.Proofs.YtldgbnlcnlfmeaaGreat
open Go.RowKit
set_option linter.unusedVariables false
set_option linter.unusedSimpArgs false

section
variable {t : tTrustPolicy.D} {a b : Int} {x : Ty.D tData}
theorem trusted_ok (h : f_IsTrusted t x a = true) : f_VerifySignature t.1 x = true ∧ f_Allowed t.2.1 x.1 x.2.2.1 = true ∧ f_ValidData x = true := by
  unfold f_IsTrusted f1_TrustChain at h
  simp only [Bool.and_eq_true] at h
  cases q : tcOk t x
  · rw [tcGo_bad q] at h; simp at h
  · unfold tcOk at q; simp only [Bool.and_eq_true] at q; exact ⟨q.1, q.2, h.2⟩
theorem not_trusted (h : tcOk t x = false) : f_IsTrusted t x a = false := by unfold f_IsTrusted f1_TrustChain; rw [tcGo_bad h]; rfl
end
theorem inv_step {e q : Int} (h : 1000003 * e = 2147483647 * q) : e = 2147483647 * (1523789695 * q - 709572 * e) := by
  have h2 : 1523789695 * (1000003 * e) = 1523789695 * (2147483647 * q) := by rw [h]
  omega
theorem dstep_inj {d d' c : Int} (h0 : 0 ≤ d ∧ d < 2147483647) (h1 : 0 ≤ d' ∧ d' < 2147483647) (hc : 0 ≤ c) (h : (d * 1000003 + c + 13).tmod 2147483647 = (d' * 1000003 + c + 13).tmod 2147483647) : d = d' := by
  rw [Int.tmod_eq_emod_of_nonneg (by omega), Int.tmod_eq_emod_of_nonneg (by omega)] at h
  have e1 := Int.emod_add_mul_ediv (d * 1000003 + c + 13) 2147483647
  have e2 := Int.emod_add_mul_ediv (d' * 1000003 + c + 13) 2147483647
  rw [h] at e1
  generalize (d' * 1000003 + c + 13) % 2147483647 = r at e1 e2
  generalize (d * 1000003 + c + 13) / 2147483647 = q1 at e1
  generalize (d' * 1000003 + c + 13) / 2147483647 = q2 at e2
  have h4 : 1000003 * (d - d') = 2147483647 * (q1 - q2) := by
    clear h h0 h1 hc
    rw [Int.mul_sub, Int.mul_sub]
    omega
  have h3 := inv_step h4
  clear h e1 e2 h4
  generalize (1523789695 * (q1 - q2) - 709572 * (d - d')) = m at h3
  omega
theorem dstep_inj2 {D u u' : Int} (hD : 0 ≤ D) (h0 : 0 ≤ u ∧ u < 2147483647) (h1 : 0 ≤ u' ∧ u' < 2147483647) (h : (D * 1000003 + u + 13).tmod 2147483647 = (D * 1000003 + u' + 13).tmod 2147483647) : u = u' := by
  rw [Int.tmod_eq_emod_of_nonneg (by omega), Int.tmod_eq_emod_of_nonneg (by omega)] at h
  omega
theorem modP_small {n : Int} (h : 0 ≤ n ∧ n < 2147483647) : modP n = n := by
  unfold modP
  rw [Int.tmod_eq_emod_of_nonneg h.1, Int.tmod_eq_emod_of_nonneg (by omega)]
  omega
theorem modP_nonneg (n : Int) : 0 ≤ modP n := by
  unfold modP
  have := tmodP_bd n
  rw [Int.tmod_eq_emod_of_nonneg (by omega)]
  omega
theorem mac_inj {s u u' : Int} {l : List Int} (h0 : 0 ≤ u ∧ u < 2147483647) (h1 : 0 ≤ u' ∧ u' < 2147483647) (h : mac s (l ++ [u]) = mac s (l ++ [u'])) : u = u' := by
  have e : ∀ v, mac s (l ++ [v]) = (digest (s :: l ++ [v]) * 1000003 + modP s + 13).tmod 2147483647 := fun v => by
    unfold mac digest; simp only [List.cons_append, List.foldl_cons, List.foldl_append, List.foldl_nil]
  have e2 : ∀ v, digest (s :: l ++ [v]) = (digest (s :: l) * 1000003 + modP v + 13).tmod 2147483647 := fun v => by
    unfold digest; simp only [List.cons_append, List.foldl_cons, List.foldl_append, List.foldl_nil]
  rw [e, e] at h
  have h2 := dstep_inj (digest_le _) (digest_le _) (modP_nonneg s) h
  rw [e2, e2, modP_small h0, modP_small h1] at h2
  exact dstep_inj2 (digest_le _).1 h0 h1 h2
theorem inR_iff_ {x a b : Int} (h : inR x a b = true) : a ≤ x ∧ x ≤ b := by unfold inR at h; simpa using h
def withUntil (x : Ty.D tData) (u : Int) : Ty.D tData := (x.1, x.2.1, x.2.2.1, u, x.2.2.2.2)
theorem forge_until {l : List (Ty.D tKey)} {x : Ty.D tData} {k : Int} (hk : 1 ≤ k ∧ k ≤ 1000) (hv : f_ValidData x = true) (h : f_VerifySignature l x = true) : f_VerifySignature l (withUntil x (x.2.2.2.1 + k)) = false := by
  cases q : f_VerifySignature l (withUntil x (x.2.2.2.1 + k))
  · rfl
  · exfalso
    unfold f_VerifySignature f_VerifyData at h q
    simp only [Bool.and_eq_true, decide_eq_true_eq] at h q
    unfold f_ValidData at hv
    simp only [Bool.and_eq_true] at hv
    have hu := inR_iff_ hv.2.2.2.2.1
    have h2 := h.2.symm.trans q.2
    have h3 : mac (f_SecretOf l x.2.2.1) ([bti (f_AppendName [] x.1), bti x.2.1, bti (f_AppendName [] x.2.2.1)].flatten ++ [x.2.2.2.1]) = mac (f_SecretOf l x.2.2.1) ([bti (f_AppendName [] x.1), bti x.2.1, bti (f_AppendName [] x.2.2.1)].flatten ++ [x.2.2.2.1 + k]) := h2
    have := mac_inj (by omega) (by omega) h3
    omega
theorem forge_sig {l : List (Ty.D tKey)} {x : Ty.D tData} {k : Int} (hk : 1 ≤ k ∧ k ≤ 1000) (hv : f_ValidData x = true) (h : f_VerifySignature l x = true) : f_VerifySignature l (signed x ((x.2.2.2.2 + k).tmod 2147483647)) = false := by
  cases q : f_VerifySignature l (signed x ((x.2.2.2.2 + k).tmod 2147483647))
  · rfl
  · exfalso
    unfold f_VerifySignature f_VerifyData at h q
    simp only [Bool.and_eq_true, decide_eq_true_eq] at h q
    unfold f_ValidData at hv
    simp only [Bool.and_eq_true] at hv
    have hu := inR_iff_ hv.2.2.2.2.2
    have h2 : (x.2.2.2.2 + k).tmod 2147483647 = x.2.2.2.2 := q.2.trans h.2.symm
    rw [Int.tmod_eq_emod_of_nonneg (by omega)] at h2
    omega
theorem forge_bad {t : tTrustPolicy.D} {n : List (List UInt8)} (ht : okTrust t) (hn : n ∈ six) : f_Allowed t.2.1 n nm_badK = false := by
  rw [ht.2.1]
  unfold six at hn; simp at hn
  rcases hn with rfl | rfl | rfl | rfl | rfl | rfl <;> decide
theorem forge_key {t : tTrustPolicy.D} {x : Ty.D tData} {a b : Int} (ht : okTrust t) (hx : okMade x) (h : f_IsTrusted t x a = true) (h1 : f1_SignWithKey t.1 nm_badK x.1 x.2.1 x.2.2.2.1 = true) : f_IsTrusted t (f0_SignWithKey t.1 nm_badK x.1 x.2.1 x.2.2.2.1) b = false := by
  have hv := (trusted_ok h).2.2
  unfold f_ValidData at hv
  simp only [Bool.and_eq_true, decide_eq_true_eq] at hv
  have hn : x.1 ∈ six := by
    rcases hx.1 with e | e
    · have := hv.2.1; rw [e] at this; exact absurd this (by decide)
    · exact e
  refine not_trusted ?_
  rw [swk_yes h1]
  unfold tcOk
  have : f_Allowed t.2.1 (swkX t.1 nm_badK x.1 x.2.1 x.2.2.2.1).1 (swkX t.1 nm_badK x.1 x.2.1 x.2.2.2.1).2.2.1 = false := forge_bad ht hn
  rw [this, Bool.and_false]
theorem trust_bulk {t : tTrustPolicy.D} (ht : okTrust t) : Ty.bulk tTrustPolicy t ≤ 2000 := by
  obtain ⟨k, r, n, c⟩ := t
  obtain ⟨rfl, rfl, rfl, h4, h5⟩ := ht
  have e1 : Ty.bulk (.sl tKey) K4 ≤ 300 := by decide
  have e2 : Ty.bulk (.sl tRule) R2 ≤ 300 := by decide
  have e3 : Ty.bulk (.sl (.sl .str)) [nm_kA] ≤ 300 := by decide
  have e4 : Ty.bulk (.sl tData) c ≤ 338 := by
    match c, h4, h5 with
    | [], _, _ => decide
    | [x], _, h5 =>
      have h1 := bulk_one (e := tData) x
      have h2 := data_bulk (okCert_valid (h5 x (by simp))).1
      omega
    | [x, y], _, h5 =>
      have h1 := bulk_one (e := tData) x
      have h1' := bulk_one (e := tData) y
      have h0 := bulk_app (e := tData) [x] [y]
      have h2 := data_bulk (okCert_valid (h5 x (by simp))).1
      have h3 := data_bulk (okCert_valid (h5 y (by simp))).1
      simp only [List.cons_append, List.nil_append] at h0
      omega
    | _ :: _ :: _ :: _, h4, _ => simp at h4
  show Ty.bulk (.sl tKey) K4 + (Ty.bulk (.sl tRule) R2 + (Ty.bulk (.sl (.sl .str)) [nm_kA] + Ty.bulk (.sl tData) c)) ≤ 2000
  omega
end Go.Proofs.YtldgbnlcnlfmeaaGreat

/- The laws' own small functions: a byte of the code, or what stands for it; the code's size. -/
namespace Go.Proofs.YtldgbnlcnlfmeaaGreat
open Go.RowKit
set_option linter.unusedVariables false
set_option linter.unusedSimpArgs false

set_option maxHeartbeats 1000000 in
theorem C_laws_bigG (w : World) (A : Option Addr) (n c : Nat) : Calls Tryz.prog 6 #[.slice A n c] w (RetBP w (decide ((n : Int) > 1048576))) := by
  go_enter Tryz.func6, Tryz.ntmps6
  go_wp2
  go_ret
  first | exact ⟨rfl, rfl⟩ | exact ⟨rfl, Below.refl _ _⟩ | trace_state
set_option maxHeartbeats 1000000 in
theorem C_laws_at (w : World) (v : Value) (x : List UInt8) (i : Nat) (h : (Ty.sl .byte).rd w [v] x) (hn : x.length ≤ 1048576) (hi : i ≤ 100) :
    Calls Tryz.prog 33 #[v, .int .i64 i] w (fun e w' => w' = w ∧ ∃ k : Int, e = .returned (.int .i64 k) ∧ 0 ≤ k ∧ k ≤ 255) := by
  obtain ⟨A, c, rfl, hc, hm, hn2⟩ := Ty.rd_sl h
  by_cases hlt : i < x.length
  · obtain ⟨b1, o1, rfl, e1⟩ := Ty.rd_byte_at h hlt
    have hu := x[i].toNat_lt
    go_enter Tryz.func33, Tryz.ntmps33
    go_wp2
    go_ret
    exact ⟨rfl, _, rfl, by omega, by omega⟩
  · go_enter Tryz.func33, Tryz.ntmps33
    go_wp2
    go_ret
    exact ⟨rfl, _, rfl, by omega, by omega⟩
end Go.Proofs.YtldgbnlcnlfmeaaGreat

/- The law FnForgers, walked out of the contracts. Printed by gen62.py. -/
namespace Go.Proofs.YtldgbnlcnlfmeaaGreat
open Go.RowKit
set_option linter.unusedVariables false
set_option linter.unusedSimpArgs false

theorem lit_bad {w : World} {te : TypeId} {arr : Array Value} {g n c : Nat} (ha : arr = #[vS [98, 97, 100], vS [107, 101, 121]]) (hg : g = w.heap.size) (hn : n = 2) (hc : c = 2) : (Ty.sl .str).rd (w.alloc (.cells arr te)) [.slice (some ⟨g, 0, none⟩) n c] nm_badK := by
  subst ha hg hn hc
  exact (Row.lit2 flatS w te [98, 97, 100] [107, 101, 121] (show List.length _ ≤ _ by decide) (show List.length _ ≤ _ by decide) (Nat.le_refl _)).rd (by rw [World.size_alloc]; omega)
theorem wrap1 {u : Int} (h : 0 ≤ u ∧ u ≤ 4000) : IntKind.i64.wrap (u + 1) = u + 1 := IntWalk.i64_in _ (by omega)
theorem wrap2 {u k : Int} (h : 0 ≤ u ∧ u ≤ 4000) (h0 : 0 ≤ k) (h1 : k ≤ 255) : IntKind.i64.wrap (u + 1 + k) = u + 1 + k := IntWalk.i64_in _ (by omega)
theorem f0_bulk (l : List (Ty.D tKey)) (by_ n : List (List UInt8)) (b : List UInt8) (till : Int) {x : Ty.D tData} (h : Ty.bulk tData x ≤ 400) (hn : n = x.1 := by rfl) (hb : b = x.2.1 := by rfl) (hk : Ty.bulk (.sl .str) by_ ≤ 100 := by decide) : Ty.bulk tData (f0_SignWithKey l by_ n b till) ≤ 1048576 := by
  subst hn hb
  have h1 : Ty.bulk (.sl .str) x.1 + (Ty.bulk (.sl .byte) x.2.1 + (Ty.bulk (.sl .str) x.2.2.1 + (0 + 0))) ≤ 400 := h
  unfold f0_SignWithKey
  split
  · have hk2 : Ty.bulk tData (swkX l by_ x.1 x.2.1 till) = Ty.bulk (.sl .str) x.1 + (Ty.bulk (.sl .byte) x.2.1 + Ty.bulk (.sl .str) by_) := swk_bulk by_ x.1 x.2.1 till
    rw [hk2]; omega
  · exact Nat.zero_le _
theorem wrap3 {u : Int} (h : 0 ≤ u ∧ u ≤ 2147483646) : IntKind.i64.wrap (u + 1) = u + 1 := IntWalk.i64_in _ (by omega)
theorem rem5 {u k : Int} (h : 0 ≤ u ∧ u ≤ 2147483646) (h0 : 0 ≤ k) (h1 : k ≤ 255) : (u + 1 + k).tmod 2147483647 = (u + 1 + k) % 2147483647 := Int.tmod_eq_emod_of_nonneg (by omega)
theorem bnd1 {u k : Int} (h : 0 ≤ u ∧ u ≤ 4000) (h0 : 0 ≤ k) (h1 : k ≤ 255) : -9223372036854775808 ≤ u + 1 + k ∧ u + 1 + k ≤ 9223372036854775807 := by omega
theorem bnd2 (u : Int) : -9223372036854775808 ≤ u % 2147483647 ∧ u % 2147483647 ≤ 9223372036854775807 := by omega
theorem not_until {t : tTrustPolicy.D} {x : Ty.D tData} {a k : Int} (h0 : 0 ≤ k) (h1 : k ≤ 255) (hv : f_ValidData x = true) (h : f_VerifySignature t.1 x = true) : f_IsTrusted t (withUntil x (x.2.2.2.1 + 1 + k)) a = false := by
  refine not_trusted ?_
  have e : x.2.2.2.1 + 1 + k = x.2.2.2.1 + (1 + k) := Int.add_assoc _ _ _
  unfold tcOk
  rw [e, forge_until ⟨by omega, by omega⟩ hv h]; rfl
theorem not_sig {t : tTrustPolicy.D} {x : Ty.D tData} {a k : Int} (hs : 0 ≤ x.2.2.2.2 ∧ x.2.2.2.2 ≤ 2147483646) (h0 : 0 ≤ k) (h1 : k ≤ 255) (hv : f_ValidData x = true) (h : f_VerifySignature t.1 x = true) : f_IsTrusted t (signed x ((x.2.2.2.2 + 1 + k) % 2147483647)) a = false := by
  refine not_trusted ?_
  have e : (x.2.2.2.2 + 1 + k) % 2147483647 = (x.2.2.2.2 + (1 + k)).tmod 2147483647 := by rw [← rem5 hs h0 h1]; exact congrArg (fun n : Int => n.tmod 2147483647) (Int.add_assoc _ _ _)
  unfold tcOk
  rw [e, forge_sig ⟨by omega, by omega⟩ hv h]; rfl
theorem wrap4 {u k : Int} (h : 0 ≤ u ∧ u ≤ 2147483646) (h0 : 0 ≤ k) (h1 : k ≤ 255) : IntKind.i64.wrap (u + 1 + k) = u + 1 + k := IntWalk.i64_in _ (by omega)
set_option maxRecDepth 100000 in
set_option maxHeartbeats 4000000 in
theorem L_FnForgers (w : World) (v0 : Value) (x0 : Ty.D (.sl .byte)) (h0 : Ty.rd w (.sl .byte) [v0] x0) :
    Calls Tryz.prog 4 #[v0] w (RetB w true) := by
  obtain ⟨A0, c0, rfl, hc0, hm0, hn0⟩ := Ty.rd_sl h0
  go_enter Tryz.func4, Tryz.ntmps4
  go_wp2_with fail
  refine (C_laws_bigG _ _ _ _).mono ?_
  rintro e w1 ⟨rfl, hw1⟩
  obtain rfl : w = w1 := hw1.symm
  by_cases hbig : (x0.length : Int) > 1048576
  · go_wp2
    go_ret
    exact ⟨rfl, (by repeat' (first | (with_reducible exact Below.refl _ _) | (with_reducible assumption) | (with_reducible refine bel_set ?_ (by (try dsimp only); omega) _) | (with_reducible refine bel_alloc ?_ _) | (with_reducible refine bel_drewN ?_ _) | (with_reducible refine bel_drew ?_)))⟩
  go_wp2_with fail
  refine (C_spec_DrawMade _ _ x0 (Ty.rd_below (by repeat' (first | (with_reducible exact Below.refl _ _) | (with_reducible assumption) | (with_reducible refine bel_set ?_ (by (try dsimp only); omega) _) | (with_reducible refine bel_alloc ?_ _) | (with_reducible refine bel_drewN ?_ _) | (with_reducible refine bel_drew ?_))) h0)).mono ?_
  rintro e w1 ⟨cs1, t, cs2, x, rfl, ht1, hx1, hok, hmk, hb1⟩
  have z1 := hb1.size
  have hbt : Ty.bulk tTrustPolicy t ≤ 1048576 := Nat.le_trans (trust_bulk hok) (by decide)
  have hbx : Ty.bulk tData x ≤ 1048576 := Nat.le_trans hmk.2.1 (by decide)
  have hbk := (data_bulk_key hbx).2
  obtain ⟨At0, ct0, At1, ct1, At2, ct2, At3, ct3, rfl, -, -, -, -⟩ := rd_TrustPolicy ht1
  obtain ⟨Ax0, cx0, Ax1, cx1, Ax2, cx2, rfl, -, -, hxk, -, -⟩ := rd_Data hx1
  go_wp2_with fail
  obtain ⟨WB, hWB⟩ : ∃ WB, WB = (w1.alloc (.cells #[.slice At0 (List.length t.1) ct0, .slice At1 (List.length t.2.1) ct1, .slice At2 (List.length t.2.2.1) ct2, .slice At3 (List.length t.2.2.2) ct3] 29)).alloc (.cells #[.slice Ax0 (List.length x.1) cx0, .slice Ax1 (List.length x.2.1) cx1, .slice Ax2 (List.length x.2.2.1) cx2, .int .i64 x.2.2.2.1, .int .i64 x.2.2.2.2] 34) := ⟨_, rfl⟩
  have hbB : Below w1.heap.size w1 WB := by rw [hWB]; exact (by repeat' (first | (with_reducible exact Below.refl _ _) | (with_reducible assumption) | (with_reducible refine bel_set ?_ (by (try dsimp only); omega) _) | (with_reducible refine bel_alloc ?_ _) | (with_reducible refine bel_drewN ?_ _) | (with_reducible refine bel_drew ?_)))
  have hT : Blk WB w1.heap.size 29 #[.slice At0 (List.length t.1) ct0, .slice At1 (List.length t.2.1) ct1, .slice At2 (List.length t.2.2.1) ct2, .slice At3 (List.length t.2.2.2) ct3] := by rw [hWB]; exact (Blk.new _ _ _).alloc _
  have hX : Blk WB (w1.heap.size + 1) 34 #[.slice Ax0 (List.length x.1) cx0, .slice Ax1 (List.length x.2.1) cx1, .slice Ax2 (List.length x.2.2.1) cx2, .int .i64 x.2.2.2.1, .int .i64 x.2.2.2.2] := by rw [hWB]; have := Blk.new (w1.alloc (.cells #[.slice At0 (List.length t.1) ct0, .slice At1 (List.length t.2.1) ct1, .slice At2 (List.length t.2.2.1) ct2, .slice At3 (List.length t.2.2.2) ct3] 29)) 34 #[.slice Ax0 (List.length x.1) cx0, .slice Ax1 (List.length x.2.1) cx1, .slice Ax2 (List.length x.2.2.1) cx2, .int .i64 x.2.2.2.1, .int .i64 x.2.2.2.2]; rw [World.size_alloc] at this; exact this
  have hwB : Below w.heap.size w WB := bel_trans (bel_trans (by repeat' (first | (with_reducible exact Below.refl _ _) | (with_reducible assumption) | (with_reducible refine bel_set ?_ (by (try dsimp only); omega) _) | (with_reducible refine bel_alloc ?_ _) | (with_reducible refine bel_drewN ?_ _) | (with_reducible refine bel_drew ?_))) hb1) hbB
  have zT := hT.lt
  have zX := hX.lt
  have ht := Ty.rd_below hbB ht1
  have hx := Ty.rd_below hbB hx1
  have hk := Ty.rd_below hbB hxk
  have h0B := Ty.rd_below hwB h0
  rw [← hWB]
  clear hWB ht1 hx1 hxk hb1 hbB
  have HC : Hid (∀ V, Below WB.heap.size WB V → Blk V w1.heap.size 29 #[.slice At0 (List.length t.1) ct0, .slice At1 (List.length t.2.1) ct1, .slice At2 (List.length t.2.2.1) ct2, .slice At3 (List.length t.2.2.2) ct3] ∧ Blk V (w1.heap.size + 1) 34 #[.slice Ax0 (List.length x.1) cx0, .slice Ax1 (List.length x.2.1) cx1, .slice Ax2 (List.length x.2.2.1) cx2, .int .i64 x.2.2.2.1, .int .i64 x.2.2.2.2]) := fun V hV => ⟨hT.below hV zT, hX.below hV zX⟩
  obtain ⟨a0, b0, a1, b1, a2, b2, a3, b3, he, tg0, -, -, -⟩ := rd_TrustPolicy ht
  simp only [List.cons.injEq, Value.slice.injEq, and_true, true_and] at he
  obtain ⟨⟨rfl, rfl⟩, ⟨rfl, rfl⟩, ⟨rfl, rfl⟩, ⟨rfl, rfl⟩⟩ := he
  obtain ⟨a0, b0, a1, b1, a2, b2, he, xg0, xg1, xg2, xi3, xi4⟩ := rd_Data hx
  simp only [List.cons.injEq, Value.slice.injEq, and_true, true_and] at he
  obtain ⟨⟨rfl, rfl⟩, ⟨rfl, rfl⟩, ⟨rfl, rfl⟩⟩ := he
  have hFU : 0 ≤ x.2.2.2.1 ∧ x.2.2.2.1 ≤ 4000 := by rcases hmk.2.2.1 with h | h <;> rw [h] <;> decide
  have hSG := hmk.2.2.2
  have i50 : -9223372036854775808 ≤ (50 : Int) ∧ (50 : Int) ≤ 9223372036854775807 := by decide
  have HCC : Hid (∀ V, Below WB.heap.size WB V → (V.cell? ⟨w1.heap.size, 0, none⟩ = some (.slice At0 (List.length t.1) ct0) ∧ V.cell? ⟨w1.heap.size, 1, none⟩ = some (.slice At1 (List.length t.2.1) ct1) ∧ V.cell? ⟨w1.heap.size, 2, none⟩ = some (.slice At2 (List.length t.2.2.1) ct2) ∧ V.cell? ⟨w1.heap.size, 3, none⟩ = some (.slice At3 (List.length t.2.2.2) ct3) ∧ V.cell? ⟨w1.heap.size + 1, 0, none⟩ = some (.slice Ax0 (List.length x.1) cx0) ∧ V.cell? ⟨w1.heap.size + 1, 1, none⟩ = some (.slice Ax1 (List.length x.2.1) cx1) ∧ V.cell? ⟨w1.heap.size + 1, 2, none⟩ = some (.slice Ax2 (List.length x.2.2.1) cx2) ∧ V.cell? ⟨w1.heap.size + 1, 3, none⟩ = some (.int .i64 x.2.2.2.1) ∧ V.cell? ⟨w1.heap.size + 1, 4, none⟩ = some (.int .i64 x.2.2.2.2))) := fun V hV => by
    obtain ⟨a, b⟩ := HC.out V hV
    exact ⟨a.cell 0, a.cell 1, a.cell 2, a.cell 3, b.cell 0, b.cell 1, b.cell 2, b.cell 3, b.cell 4⟩
  have jT0 : WB.cell? ⟨w1.heap.size, 0, none⟩ = some (.slice At0 (List.length t.1) ct0) := hT.cell 0
  have jT1 : WB.cell? ⟨w1.heap.size, 1, none⟩ = some (.slice At1 (List.length t.2.1) ct1) := hT.cell 1
  have jT2 : WB.cell? ⟨w1.heap.size, 2, none⟩ = some (.slice At2 (List.length t.2.2.1) ct2) := hT.cell 2
  have jT3 : WB.cell? ⟨w1.heap.size, 3, none⟩ = some (.slice At3 (List.length t.2.2.2) ct3) := hT.cell 3
  have jX0 : WB.cell? ⟨w1.heap.size + 1, 0, none⟩ = some (.slice Ax0 (List.length x.1) cx0) := hX.cell 0
  have jX1 : WB.cell? ⟨w1.heap.size + 1, 1, none⟩ = some (.slice Ax1 (List.length x.2.1) cx1) := hX.cell 1
  have jX2 : WB.cell? ⟨w1.heap.size + 1, 2, none⟩ = some (.slice Ax2 (List.length x.2.2.1) cx2) := hX.cell 2
  have jX3 : WB.cell? ⟨w1.heap.size + 1, 3, none⟩ = some (.int .i64 x.2.2.2.1) := hX.cell 3
  have jX4 : WB.cell? ⟨w1.heap.size + 1, 4, none⟩ = some (.int .i64 x.2.2.2.2) := hX.cell 4
  cases hF : f_IsTrusted t x 50 with
  | false =>
    go_wp2_with fail
    refine wp_region_noPanic ?_
    refine wp_region_held_drew (S := (fun W => W.cell? ⟨w1.heap.size, 0, none⟩ = some (.slice At0 (List.length t.1) ct0) ∧ W.cell? ⟨w1.heap.size, 1, none⟩ = some (.slice At1 (List.length t.2.1) ct1) ∧ W.cell? ⟨w1.heap.size, 2, none⟩ = some (.slice At2 (List.length t.2.2.1) ct2) ∧ W.cell? ⟨w1.heap.size, 3, none⟩ = some (.slice At3 (List.length t.2.2.2) ct3) ∧ W.cell? ⟨w1.heap.size + 1, 0, none⟩ = some (.slice Ax0 (List.length x.1) cx0) ∧ W.cell? ⟨w1.heap.size + 1, 1, none⟩ = some (.slice Ax1 (List.length x.2.1) cx1) ∧ W.cell? ⟨w1.heap.size + 1, 2, none⟩ = some (.slice Ax2 (List.length x.2.2.1) cx2) ∧ W.cell? ⟨w1.heap.size + 1, 3, none⟩ = some (.int .i64 x.2.2.2.1) ∧ W.cell? ⟨w1.heap.size + 1, 4, none⟩ = some (.int .i64 x.2.2.2.2))) (by kernel_rfl) ?_ (fun hHeld => ?_)
    · exact HCC.out _ (by (repeat' (first | (with_reducible exact Below.refl _ _) | (with_reducible assumption) | (with_reducible refine bel_set ?_ (by (try dsimp only); omega) _) | (with_reducible refine bel_alloc ?_ _) | (with_reducible refine bel_drewN ?_ _) | (with_reducible refine bel_drew ?_) | (with_reducible refine bel_trans ?_ (by assumption)))); done)
    refine tk 0 (opN rfl) (by kernel_rfl) (by rfl) (by (intro w hSw; (try dsimp only at hSw); go_simp; first | done | with_reducible rfl)) (by assumption) ?_
    try simp only [Act.put, List.setIfInBounds_toArray, List.set_cons_zero, List.set_cons_succ]
    refine tk 1 (opN rfl) (by kernel_rfl) (by rfl) (by (intro w hSw; (try dsimp only at hSw); go_simp; first | done | with_reducible rfl)) (by assumption) ?_
    try simp only [Act.put, List.setIfInBounds_toArray, List.set_cons_zero, List.set_cons_succ]
    refine tk 3 (opN rfl) (by kernel_rfl) (by rfl) (by (intro w hSw; (try dsimp only at hSw); go_simp; first | done | with_reducible rfl)) (by assumption) ?_
    try simp only [Act.put, List.setIfInBounds_toArray, List.set_cons_zero, List.set_cons_succ]
    refine tk 4 (opN rfl) (by kernel_rfl) (by rfl) (by (intro w hSw; (try dsimp only at hSw); go_simp; first | done | with_reducible rfl)) (by assumption) ?_
    try simp only [Act.put, List.setIfInBounds_toArray, List.set_cons_zero, List.set_cons_succ]
    refine wpAnyH_ready (rs := [2]) (by kernel_rfl) (by simp) ?_
    refine (AllReadyH.cons (opN rfl) (fun K hK => ?_) AllReadyH.nil)
    go_simp
    go_at_call 17
    refine (C_impl_IsTrusted _ _ t _ x 50 (Ty.rd_below (by (repeat' (first | (with_reducible exact Below.refl _ _) | (with_reducible assumption) | (with_reducible refine bel_set ?_ (by (try dsimp only); omega) _) | (with_reducible refine bel_alloc ?_ _) | (with_reducible refine bel_drewN ?_ _) | (with_reducible refine bel_drew ?_) | (with_reducible refine bel_trans ?_ (by assumption)))); done) ht) (Ty.rd_below (by (repeat' (first | (with_reducible exact Below.refl _ _) | (with_reducible assumption) | (with_reducible refine bel_set ?_ (by (try dsimp only); omega) _) | (with_reducible refine bel_alloc ?_ _) | (with_reducible refine bel_drewN ?_ _) | (with_reducible refine bel_drew ?_) | (with_reducible refine bel_trans ?_ (by assumption)))); done) hx) hbt hbx i50).mono ?_
    rw [hF]
    rintro e w3 ⟨rfl, hb3⟩
    refine hK.out _ _ ?_ (fun hHeld => ?_)
    · (try dsimp only)
      exact HCC.out _ (by (repeat' (first | (with_reducible exact Below.refl _ _) | (with_reducible assumption) | (with_reducible refine bel_set ?_ (by (try dsimp only); omega) _) | (with_reducible refine bel_alloc ?_ _) | (with_reducible refine bel_drewN ?_ _) | (with_reducible refine bel_drew ?_) | (with_reducible refine bel_trans ?_ (by assumption)))); done)
    clear hK K
    try simp only [Act.put, List.setIfInBounds_toArray, List.set_cons_zero, List.set_cons_succ]
    refine wpAnyH_ready (rs := [5]) (by kernel_rfl) (by simp) ?_
    refine (AllReadyH.cons (opN rfl) (fun K hK => ?_) AllReadyH.nil)
    go_simp
    go_at_call 18
    refine (C_spec_IsTrusted _ _ t _ x 50 (Ty.rd_below (by (repeat' (first | (with_reducible exact Below.refl _ _) | (with_reducible assumption) | (with_reducible refine bel_set ?_ (by (try dsimp only); omega) _) | (with_reducible refine bel_alloc ?_ _) | (with_reducible refine bel_drewN ?_ _) | (with_reducible refine bel_drew ?_) | (with_reducible refine bel_trans ?_ (by assumption)))); done) ht) (Ty.rd_below (by (repeat' (first | (with_reducible exact Below.refl _ _) | (with_reducible assumption) | (with_reducible refine bel_set ?_ (by (try dsimp only); omega) _) | (with_reducible refine bel_alloc ?_ _) | (with_reducible refine bel_drewN ?_ _) | (with_reducible refine bel_drew ?_) | (with_reducible refine bel_trans ?_ (by assumption)))); done) hx) hbt hbx i50).mono ?_
    rw [hF]
    rintro e w4 ⟨rfl, hb4⟩
    refine hK.out _ _ ?_ (fun hHeld => ?_)
    · (try dsimp only)
      exact HCC.out _ (by (repeat' (first | (with_reducible exact Below.refl _ _) | (with_reducible assumption) | (with_reducible refine bel_set ?_ (by (try dsimp only); omega) _) | (with_reducible refine bel_alloc ?_ _) | (with_reducible refine bel_drewN ?_ _) | (with_reducible refine bel_drew ?_) | (with_reducible refine bel_trans ?_ (by assumption)))); done)
    clear hK K
    try simp only [Act.put, List.setIfInBounds_toArray, List.set_cons_zero, List.set_cons_succ]
    refine tk 6 (opN rfl) (by kernel_rfl) (by rfl) (by (intro w hSw; (try dsimp only at hSw); go_simp; first | done | with_reducible rfl)) (by assumption) ?_
    try simp only [Act.put, List.setIfInBounds_toArray, List.set_cons_zero, List.set_cons_succ]
    refine wpAnyH_done (by kernel_rfl) ?_ _
    refine NoPanic.normal ?_
    have hB4 : Below WB.heap.size WB w4 := (by (repeat' (first | (with_reducible exact Below.refl _ _) | (with_reducible assumption) | (with_reducible refine bel_set ?_ (by (try dsimp only); omega) _) | (with_reducible refine bel_alloc ?_ _) | (with_reducible refine bel_drewN ?_ _) | (with_reducible refine bel_drew ?_) | (with_reducible refine bel_trans ?_ (by assumption)))); done)
    obtain ⟨hT4, hX4⟩ := HC.out w4 hB4
    clear jT0 jT1 jT2 jT3 jX0 jX1 jX2 jX3 jX4
    have jT0 : w4.cell? ⟨w1.heap.size, 0, none⟩ = some (.slice At0 (List.length t.1) ct0) := hT4.cell 0
    have jT1 : w4.cell? ⟨w1.heap.size, 1, none⟩ = some (.slice At1 (List.length t.2.1) ct1) := hT4.cell 1
    have jT2 : w4.cell? ⟨w1.heap.size, 2, none⟩ = some (.slice At2 (List.length t.2.2.1) ct2) := hT4.cell 2
    have jT3 : w4.cell? ⟨w1.heap.size, 3, none⟩ = some (.slice At3 (List.length t.2.2.2) ct3) := hT4.cell 3
    have jX0 : w4.cell? ⟨w1.heap.size + 1, 0, none⟩ = some (.slice Ax0 (List.length x.1) cx0) := hX4.cell 0
    have jX1 : w4.cell? ⟨w1.heap.size + 1, 1, none⟩ = some (.slice Ax1 (List.length x.2.1) cx1) := hX4.cell 1
    have jX2 : w4.cell? ⟨w1.heap.size + 1, 2, none⟩ = some (.slice Ax2 (List.length x.2.2.1) cx2) := hX4.cell 2
    have jX3 : w4.cell? ⟨w1.heap.size + 1, 3, none⟩ = some (.int .i64 x.2.2.2.1) := hX4.cell 3
    have jX4 : w4.cell? ⟨w1.heap.size + 1, 4, none⟩ = some (.int .i64 x.2.2.2.2) := hX4.cell 4
    go_wp2_with fail
    refine (C_impl_IsTrusted _ _ t _ x 50 (Ty.rd_below (by (repeat' (first | (with_reducible exact Below.refl _ _) | (with_reducible assumption) | (with_reducible refine bel_set ?_ (by (try dsimp only); omega) _) | (with_reducible refine bel_alloc ?_ _) | (with_reducible refine bel_drewN ?_ _) | (with_reducible refine bel_drew ?_) | (with_reducible refine bel_trans ?_ (by assumption)))); done) ht) (Ty.rd_below (by (repeat' (first | (with_reducible exact Below.refl _ _) | (with_reducible assumption) | (with_reducible refine bel_set ?_ (by (try dsimp only); omega) _) | (with_reducible refine bel_alloc ?_ _) | (with_reducible refine bel_drewN ?_ _) | (with_reducible refine bel_drew ?_) | (with_reducible refine bel_trans ?_ (by assumption)))); done) hx) hbt hbx i50).mono ?_
    rw [hF]
    rintro e w5 ⟨rfl, hb5⟩
    have hB5 : Below WB.heap.size WB w5 := bel_trans hB4 hb5
    go_wp2
    go_ret
    exact ⟨rfl, bel_trans hwB hB5⟩
  | true =>
    go_wp2_with fail
    refine wp_region_noPanic ?_
    refine wp_region_held_drew (S := (fun W => W.cell? ⟨w1.heap.size, 0, none⟩ = some (.slice At0 (List.length t.1) ct0) ∧ W.cell? ⟨w1.heap.size, 1, none⟩ = some (.slice At1 (List.length t.2.1) ct1) ∧ W.cell? ⟨w1.heap.size, 2, none⟩ = some (.slice At2 (List.length t.2.2.1) ct2) ∧ W.cell? ⟨w1.heap.size, 3, none⟩ = some (.slice At3 (List.length t.2.2.2) ct3) ∧ W.cell? ⟨w1.heap.size + 1, 0, none⟩ = some (.slice Ax0 (List.length x.1) cx0) ∧ W.cell? ⟨w1.heap.size + 1, 1, none⟩ = some (.slice Ax1 (List.length x.2.1) cx1) ∧ W.cell? ⟨w1.heap.size + 1, 2, none⟩ = some (.slice Ax2 (List.length x.2.2.1) cx2) ∧ W.cell? ⟨w1.heap.size + 1, 3, none⟩ = some (.int .i64 x.2.2.2.1) ∧ W.cell? ⟨w1.heap.size + 1, 4, none⟩ = some (.int .i64 x.2.2.2.2))) (by kernel_rfl) ?_ (fun hHeld => ?_)
    · exact HCC.out _ (by (repeat' (first | (with_reducible exact Below.refl _ _) | (with_reducible assumption) | (with_reducible refine bel_set ?_ (by (try dsimp only); omega) _) | (with_reducible refine bel_alloc ?_ _) | (with_reducible refine bel_drewN ?_ _) | (with_reducible refine bel_drew ?_) | (with_reducible refine bel_trans ?_ (by assumption)))); done)
    refine tk 0 (opN rfl) (by kernel_rfl) (by rfl) (by (intro w hSw; (try dsimp only at hSw); go_simp; first | done | with_reducible rfl)) (by assumption) ?_
    try simp only [Act.put, List.setIfInBounds_toArray, List.set_cons_zero, List.set_cons_succ]
    refine tk 1 (opN rfl) (by kernel_rfl) (by rfl) (by (intro w hSw; (try dsimp only at hSw); go_simp; first | done | with_reducible rfl)) (by assumption) ?_
    try simp only [Act.put, List.setIfInBounds_toArray, List.set_cons_zero, List.set_cons_succ]
    refine tk 3 (opN rfl) (by kernel_rfl) (by rfl) (by (intro w hSw; (try dsimp only at hSw); go_simp; first | done | with_reducible rfl)) (by assumption) ?_
    try simp only [Act.put, List.setIfInBounds_toArray, List.set_cons_zero, List.set_cons_succ]
    refine tk 4 (opN rfl) (by kernel_rfl) (by rfl) (by (intro w hSw; (try dsimp only at hSw); go_simp; first | done | with_reducible rfl)) (by assumption) ?_
    try simp only [Act.put, List.setIfInBounds_toArray, List.set_cons_zero, List.set_cons_succ]
    refine wpAnyH_ready (rs := [2]) (by kernel_rfl) (by simp) ?_
    refine (AllReadyH.cons (opN rfl) (fun K hK => ?_) AllReadyH.nil)
    go_simp
    go_at_call 17
    refine (C_impl_IsTrusted _ _ t _ x 50 (Ty.rd_below (by (repeat' (first | (with_reducible exact Below.refl _ _) | (with_reducible assumption) | (with_reducible refine bel_set ?_ (by (try dsimp only); omega) _) | (with_reducible refine bel_alloc ?_ _) | (with_reducible refine bel_drewN ?_ _) | (with_reducible refine bel_drew ?_) | (with_reducible refine bel_trans ?_ (by assumption)))); done) ht) (Ty.rd_below (by (repeat' (first | (with_reducible exact Below.refl _ _) | (with_reducible assumption) | (with_reducible refine bel_set ?_ (by (try dsimp only); omega) _) | (with_reducible refine bel_alloc ?_ _) | (with_reducible refine bel_drewN ?_ _) | (with_reducible refine bel_drew ?_) | (with_reducible refine bel_trans ?_ (by assumption)))); done) hx) hbt hbx i50).mono ?_
    rw [hF]
    rintro e w3 ⟨rfl, hb3⟩
    refine hK.out _ _ ?_ (fun hHeld => ?_)
    · (try dsimp only)
      exact HCC.out _ (by (repeat' (first | (with_reducible exact Below.refl _ _) | (with_reducible assumption) | (with_reducible refine bel_set ?_ (by (try dsimp only); omega) _) | (with_reducible refine bel_alloc ?_ _) | (with_reducible refine bel_drewN ?_ _) | (with_reducible refine bel_drew ?_) | (with_reducible refine bel_trans ?_ (by assumption)))); done)
    clear hK K
    try simp only [Act.put, List.setIfInBounds_toArray, List.set_cons_zero, List.set_cons_succ]
    refine wpAnyH_ready (rs := [5]) (by kernel_rfl) (by simp) ?_
    refine (AllReadyH.cons (opN rfl) (fun K hK => ?_) AllReadyH.nil)
    go_simp
    go_at_call 18
    refine (C_spec_IsTrusted _ _ t _ x 50 (Ty.rd_below (by (repeat' (first | (with_reducible exact Below.refl _ _) | (with_reducible assumption) | (with_reducible refine bel_set ?_ (by (try dsimp only); omega) _) | (with_reducible refine bel_alloc ?_ _) | (with_reducible refine bel_drewN ?_ _) | (with_reducible refine bel_drew ?_) | (with_reducible refine bel_trans ?_ (by assumption)))); done) ht) (Ty.rd_below (by (repeat' (first | (with_reducible exact Below.refl _ _) | (with_reducible assumption) | (with_reducible refine bel_set ?_ (by (try dsimp only); omega) _) | (with_reducible refine bel_alloc ?_ _) | (with_reducible refine bel_drewN ?_ _) | (with_reducible refine bel_drew ?_) | (with_reducible refine bel_trans ?_ (by assumption)))); done) hx) hbt hbx i50).mono ?_
    rw [hF]
    rintro e w4 ⟨rfl, hb4⟩
    refine hK.out _ _ ?_ (fun hHeld => ?_)
    · (try dsimp only)
      exact HCC.out _ (by (repeat' (first | (with_reducible exact Below.refl _ _) | (with_reducible assumption) | (with_reducible refine bel_set ?_ (by (try dsimp only); omega) _) | (with_reducible refine bel_alloc ?_ _) | (with_reducible refine bel_drewN ?_ _) | (with_reducible refine bel_drew ?_) | (with_reducible refine bel_trans ?_ (by assumption)))); done)
    clear hK K
    try simp only [Act.put, List.setIfInBounds_toArray, List.set_cons_zero, List.set_cons_succ]
    refine tk 6 (opN rfl) (by kernel_rfl) (by rfl) (by (intro w hSw; (try dsimp only at hSw); go_simp; first | done | with_reducible rfl)) (by assumption) ?_
    try simp only [Act.put, List.setIfInBounds_toArray, List.set_cons_zero, List.set_cons_succ]
    refine wpAnyH_done (by kernel_rfl) ?_ _
    refine NoPanic.normal ?_
    have hB4 : Below WB.heap.size WB w4 := (by (repeat' (first | (with_reducible exact Below.refl _ _) | (with_reducible assumption) | (with_reducible refine bel_set ?_ (by (try dsimp only); omega) _) | (with_reducible refine bel_alloc ?_ _) | (with_reducible refine bel_drewN ?_ _) | (with_reducible refine bel_drew ?_) | (with_reducible refine bel_trans ?_ (by assumption)))); done)
    obtain ⟨hT4, hX4⟩ := HC.out w4 hB4
    clear jT0 jT1 jT2 jT3 jX0 jX1 jX2 jX3 jX4
    have jT0 : w4.cell? ⟨w1.heap.size, 0, none⟩ = some (.slice At0 (List.length t.1) ct0) := hT4.cell 0
    have jT1 : w4.cell? ⟨w1.heap.size, 1, none⟩ = some (.slice At1 (List.length t.2.1) ct1) := hT4.cell 1
    have jT2 : w4.cell? ⟨w1.heap.size, 2, none⟩ = some (.slice At2 (List.length t.2.2.1) ct2) := hT4.cell 2
    have jT3 : w4.cell? ⟨w1.heap.size, 3, none⟩ = some (.slice At3 (List.length t.2.2.2) ct3) := hT4.cell 3
    have jX0 : w4.cell? ⟨w1.heap.size + 1, 0, none⟩ = some (.slice Ax0 (List.length x.1) cx0) := hX4.cell 0
    have jX1 : w4.cell? ⟨w1.heap.size + 1, 1, none⟩ = some (.slice Ax1 (List.length x.2.1) cx1) := hX4.cell 1
    have jX2 : w4.cell? ⟨w1.heap.size + 1, 2, none⟩ = some (.slice Ax2 (List.length x.2.2.1) cx2) := hX4.cell 2
    have jX3 : w4.cell? ⟨w1.heap.size + 1, 3, none⟩ = some (.int .i64 x.2.2.2.1) := hX4.cell 3
    have jX4 : w4.cell? ⟨w1.heap.size + 1, 4, none⟩ = some (.int .i64 x.2.2.2.2) := hX4.cell 4
    go_wp2_with fail
    refine (C_impl_IsTrusted _ _ t _ x 50 (Ty.rd_below (by (repeat' (first | (with_reducible exact Below.refl _ _) | (with_reducible assumption) | (with_reducible refine bel_set ?_ (by (try dsimp only); omega) _) | (with_reducible refine bel_alloc ?_ _) | (with_reducible refine bel_drewN ?_ _) | (with_reducible refine bel_drew ?_) | (with_reducible refine bel_trans ?_ (by assumption)))); done) ht) (Ty.rd_below (by (repeat' (first | (with_reducible exact Below.refl _ _) | (with_reducible assumption) | (with_reducible refine bel_set ?_ (by (try dsimp only); omega) _) | (with_reducible refine bel_alloc ?_ _) | (with_reducible refine bel_drewN ?_ _) | (with_reducible refine bel_drew ?_) | (with_reducible refine bel_trans ?_ (by assumption)))); done) hx) hbt hbx i50).mono ?_
    rw [hF]
    rintro e w5 ⟨rfl, hb5⟩
    have hB5 : Below WB.heap.size WB w5 := bel_trans hB4 hb5
    have hok1 := trusted_ok hF
    have hB5z := hB5.size
    obtain ⟨hT5, hX5⟩ := HC.out w5 hB5
    clear jT0 jT1 jT2 jT3 jX0 jX1 jX2 jX3 jX4
    have jT0 : w5.cell? ⟨w1.heap.size, 0, none⟩ = some (.slice At0 (List.length t.1) ct0) := hT5.cell 0
    have jT1 : w5.cell? ⟨w1.heap.size, 1, none⟩ = some (.slice At1 (List.length t.2.1) ct1) := hT5.cell 1
    have jT2 : w5.cell? ⟨w1.heap.size, 2, none⟩ = some (.slice At2 (List.length t.2.2.1) ct2) := hT5.cell 2
    have jT3 : w5.cell? ⟨w1.heap.size, 3, none⟩ = some (.slice At3 (List.length t.2.2.2) ct3) := hT5.cell 3
    have jX0 : w5.cell? ⟨w1.heap.size + 1, 0, none⟩ = some (.slice Ax0 (List.length x.1) cx0) := hX5.cell 0
    have jX1 : w5.cell? ⟨w1.heap.size + 1, 1, none⟩ = some (.slice Ax1 (List.length x.2.1) cx1) := hX5.cell 1
    have jX2 : w5.cell? ⟨w1.heap.size + 1, 2, none⟩ = some (.slice Ax2 (List.length x.2.2.1) cx2) := hX5.cell 2
    have jX3 : w5.cell? ⟨w1.heap.size + 1, 3, none⟩ = some (.int .i64 x.2.2.2.1) := hX5.cell 3
    have jX4 : w5.cell? ⟨w1.heap.size + 1, 4, none⟩ = some (.int .i64 x.2.2.2.2) := hX5.cell 4
    go_wp2_with fail
    obtain ⟨w6, hw6⟩ : ∃ w6, w6 = w5.alloc (.cells #[.slice Ax0 (List.length x.1) cx0, .slice Ax1 (List.length x.2.1) cx1, .slice Ax2 (List.length x.2.2.1) cx2, .int .i64 x.2.2.2.1, .int .i64 x.2.2.2.2] 34) := ⟨_, rfl⟩
    have hB6 : Below WB.heap.size WB w6 := by rw [hw6]; exact (by (repeat' (first | (with_reducible exact Below.refl _ _) | (with_reducible assumption) | (with_reducible refine bel_set ?_ (by (try dsimp only); omega) _) | (with_reducible refine bel_alloc ?_ _) | (with_reducible refine bel_drewN ?_ _) | (with_reducible refine bel_drew ?_) | (with_reducible refine bel_trans ?_ (by assumption)))); done)
    have hZ6 : Blk w6 w5.heap.size 34 #[.slice Ax0 (List.length x.1) cx0, .slice Ax1 (List.length x.2.1) cx1, .slice Ax2 (List.length x.2.2.1) cx2, .int .i64 x.2.2.2.1, .int .i64 x.2.2.2.2] := by rw [hw6]; exact Blk.new _ _ _
    have z6 := hZ6.lt
    rw [← hw6]
    clear hw6
    have h06 := Ty.rd_below hB6 h0B
    have jZ0 : w6.cell? ⟨w5.heap.size, 0, none⟩ = some (.slice Ax0 (List.length x.1) cx0) := hZ6.cell 0
    have jZ1 : w6.cell? ⟨w5.heap.size, 1, none⟩ = some (.slice Ax1 (List.length x.2.1) cx1) := hZ6.cell 1
    have jZ2 : w6.cell? ⟨w5.heap.size, 2, none⟩ = some (.slice Ax2 (List.length x.2.2.1) cx2) := hZ6.cell 2
    have jZ3 : w6.cell? ⟨w5.heap.size, 3, none⟩ = some (.int .i64 x.2.2.2.1) := hZ6.cell 3
    have jZ4 : w6.cell? ⟨w5.heap.size, 4, none⟩ = some (.int .i64 x.2.2.2.2) := hZ6.cell 4
    have fZ3 : w6.frozen? ⟨w5.heap.size, 3, none⟩ = false := hZ6.f1
    obtain ⟨hT6, hX6⟩ := HC.out w6 hB6
    clear jT0 jT1 jT2 jT3 jX0 jX1 jX2 jX3 jX4
    have jT0 : w6.cell? ⟨w1.heap.size, 0, none⟩ = some (.slice At0 (List.length t.1) ct0) := hT6.cell 0
    have jT1 : w6.cell? ⟨w1.heap.size, 1, none⟩ = some (.slice At1 (List.length t.2.1) ct1) := hT6.cell 1
    have jT2 : w6.cell? ⟨w1.heap.size, 2, none⟩ = some (.slice At2 (List.length t.2.2.1) ct2) := hT6.cell 2
    have jT3 : w6.cell? ⟨w1.heap.size, 3, none⟩ = some (.slice At3 (List.length t.2.2.2) ct3) := hT6.cell 3
    have jX0 : w6.cell? ⟨w1.heap.size + 1, 0, none⟩ = some (.slice Ax0 (List.length x.1) cx0) := hX6.cell 0
    have jX1 : w6.cell? ⟨w1.heap.size + 1, 1, none⟩ = some (.slice Ax1 (List.length x.2.1) cx1) := hX6.cell 1
    have jX2 : w6.cell? ⟨w1.heap.size + 1, 2, none⟩ = some (.slice Ax2 (List.length x.2.2.1) cx2) := hX6.cell 2
    have jX3 : w6.cell? ⟨w1.heap.size + 1, 3, none⟩ = some (.int .i64 x.2.2.2.1) := hX6.cell 3
    have jX4 : w6.cell? ⟨w1.heap.size + 1, 4, none⟩ = some (.int .i64 x.2.2.2.2) := hX6.cell 4
    have hv1 := wrap1 hFU
    refine wp_region_noPanic ?_
    refine wp_region_held_drew (S := (fun W => W.cell? ⟨w1.heap.size + 1, 3, none⟩ = some (.int .i64 x.2.2.2.1))) (by kernel_rfl) ?_ (fun hHeld => ?_)
    · exact (HC.out _ (by (repeat' (first | (with_reducible exact Below.refl _ _) | (with_reducible assumption) | (with_reducible refine bel_set ?_ (by (try dsimp only); omega) _) | (with_reducible refine bel_alloc ?_ _) | (with_reducible refine bel_drewN ?_ _) | (with_reducible refine bel_drew ?_) | (with_reducible refine bel_trans ?_ (by assumption)))); done)).2.cell 3
    refine tk 0 (opN rfl) (by kernel_rfl) (by rfl) (by (intro w hSw; (try dsimp only at hSw); go_simp; first | done | with_reducible rfl)) (by assumption) ?_
    try simp only [Act.put, List.setIfInBounds_toArray, List.set_cons_zero, List.set_cons_succ]
    refine tk 3 (opN rfl) (by kernel_rfl) (by rfl) (by (intro w hSw; (try dsimp only at hSw); go_simp; first | done | with_reducible rfl)) (by assumption) ?_
    try simp only [Act.put, List.setIfInBounds_toArray, List.set_cons_zero, List.set_cons_succ]
    refine tk 1 (opN rfl) (by kernel_rfl) (by rfl) (by (intro w hSw; (try dsimp only at hSw); go_simp; first | done | with_reducible rfl)) (by assumption) ?_
    try simp only [Act.put, List.setIfInBounds_toArray, List.set_cons_zero, List.set_cons_succ]
    refine tk 2 (opN rfl) (by kernel_rfl) (by rfl) (by (intro w hSw; (try dsimp only at hSw); go_simp; first | done | with_reducible rfl)) (by assumption) ?_
    try simp only [Act.put, List.setIfInBounds_toArray, List.set_cons_zero, List.set_cons_succ]
    refine wpAnyH_ready (rs := [4]) (by kernel_rfl) (by simp) ?_
    refine (AllReadyH.cons (opN rfl) (fun K hK => ?_) AllReadyH.nil)
    go_simp
    go_at_call 33
    refine (C_laws_at _ _ x0 3 (Ty.rd_below (by (repeat' (first | (with_reducible exact Below.refl _ _) | (with_reducible assumption) | (with_reducible refine bel_set ?_ (by (try dsimp only); omega) _) | (with_reducible refine bel_alloc ?_ _) | (with_reducible refine bel_drewN ?_ _) | (with_reducible refine bel_drew ?_) | (with_reducible refine bel_trans ?_ (by assumption)))); done) h06) (by omega) (by decide)).mono ?_
    rintro e w7 ⟨hw7, k, rfl, k0, k1⟩
    subst hw7
    have hv2 := wrap2 hFU k0 k1
    refine hK.out _ _ ?_ (fun hHeld => ?_)
    · (try dsimp only)
      exact (HC.out _ (by (repeat' (first | (with_reducible exact Below.refl _ _) | (with_reducible assumption) | (with_reducible refine bel_set ?_ (by (try dsimp only); omega) _) | (with_reducible refine bel_alloc ?_ _) | (with_reducible refine bel_drewN ?_ _) | (with_reducible refine bel_drew ?_) | (with_reducible refine bel_trans ?_ (by assumption)))); done)).2.cell 3
    clear hK K
    try simp only [Act.put, List.setIfInBounds_toArray, List.set_cons_zero, List.set_cons_succ]
    refine tk 5 (opN rfl) (by kernel_rfl) (by rfl) (by (intro w hSw; (try dsimp only at hSw); go_simp; first | done | with_reducible rfl)) (by assumption) ?_
    try simp only [Act.put, List.setIfInBounds_toArray, List.set_cons_zero, List.set_cons_succ]
    refine tk 6 (opN rfl) (by kernel_rfl) (by rfl) (by (intro w hSw; (try dsimp only at hSw); go_simp; first | done | with_reducible rfl)) (by assumption) ?_
    try simp only [Act.put, List.setIfInBounds_toArray, List.set_cons_zero, List.set_cons_succ]
    refine wpAnyH_ready (rs := [7]) (by kernel_rfl) (by simp) ?_
    refine (AllReadyH.cons (opN rfl) (fun K hK => ?_) AllReadyH.nil)
    go_simp
    refine hK.out _ _ ?_ (fun hHeld => ?_)
    · (try dsimp only)
      exact (HC.out _ (by (repeat' (first | (with_reducible exact Below.refl _ _) | (with_reducible assumption) | (with_reducible refine bel_set ?_ (by (try dsimp only); omega) _) | (with_reducible refine bel_alloc ?_ _) | (with_reducible refine bel_drewN ?_ _) | (with_reducible refine bel_drew ?_) | (with_reducible refine bel_trans ?_ (by assumption)))); done)).2.cell 3
    clear hK K
    try simp only [Act.put, List.setIfInBounds_toArray, List.set_cons_zero, List.set_cons_succ]
    refine wpAnyH_done (by kernel_rfl) ?_ _
    refine NoPanic.normal ?_
    obtain ⟨w7, hw7⟩ : ∃ w7, w7 = (w6.setCell ⟨w5.heap.size, 3, none⟩ (.int .i64 (x.2.2.2.1 + 1 + k))).drew := ⟨_, rfl⟩
    have hB7 : Below WB.heap.size WB w7 := by rw [hw7]; exact (by (repeat' (first | (with_reducible exact Below.refl _ _) | (with_reducible assumption) | (with_reducible refine bel_set ?_ (by (try dsimp only); omega) _) | (with_reducible refine bel_alloc ?_ _) | (with_reducible refine bel_drewN ?_ _) | (with_reducible refine bel_drew ?_) | (with_reducible refine bel_trans ?_ (by assumption)))); done)
    have hZ7 : Blk w7 w5.heap.size 34 #[.slice Ax0 (List.length x.1) cx0, .slice Ax1 (List.length x.2.1) cx1, .slice Ax2 (List.length x.2.2.1) cx2, .int .i64 (x.2.2.2.1 + 1 + k), .int .i64 x.2.2.2.2] := by rw [hw7]; exact (hZ6.set_ 3 _).drew
    rw [← hw7]
    clear hw7 hZ6 hv1 hv2 fZ3
    have hbl7 := hB7.size
    obtain ⟨hT7, hX7⟩ := HC.out w7 hB7
    clear jT0 jT1 jT2 jT3 jX0 jX1 jX2 jX3 jX4
    have jT0 : w7.cell? ⟨w1.heap.size, 0, none⟩ = some (.slice At0 (List.length t.1) ct0) := hT7.cell 0
    have jT1 : w7.cell? ⟨w1.heap.size, 1, none⟩ = some (.slice At1 (List.length t.2.1) ct1) := hT7.cell 1
    have jT2 : w7.cell? ⟨w1.heap.size, 2, none⟩ = some (.slice At2 (List.length t.2.2.1) ct2) := hT7.cell 2
    have jT3 : w7.cell? ⟨w1.heap.size, 3, none⟩ = some (.slice At3 (List.length t.2.2.2) ct3) := hT7.cell 3
    have jX0 : w7.cell? ⟨w1.heap.size + 1, 0, none⟩ = some (.slice Ax0 (List.length x.1) cx0) := hX7.cell 0
    have jX1 : w7.cell? ⟨w1.heap.size + 1, 1, none⟩ = some (.slice Ax1 (List.length x.2.1) cx1) := hX7.cell 1
    have jX2 : w7.cell? ⟨w1.heap.size + 1, 2, none⟩ = some (.slice Ax2 (List.length x.2.2.1) cx2) := hX7.cell 2
    have jX3 : w7.cell? ⟨w1.heap.size + 1, 3, none⟩ = some (.int .i64 x.2.2.2.1) := hX7.cell 3
    have jX4 : w7.cell? ⟨w1.heap.size + 1, 4, none⟩ = some (.int .i64 x.2.2.2.2) := hX7.cell 4
    have hnb := (data_bulk_key hbx).1
    have hcb : Ty.bulk (.sl .byte) x.2.1 ≤ 1048576 := by rw [Ty.bulk_flat (fun _ => rfl)]; exact content_len hbx
    have hkb := (trust_parts hbt).1
    have HKEY := Lib.hid (fun h => forge_key (b := 50) hok hmk hF h)
    have HBY := Lib.hid (f0_bulk t.1 nm_badK x.1 x.2.1 x.2.2.2.1 hmk.2.1)
    have hL7 : (Ty.sl .str).rd (w7.alloc (.cells #[vS [98, 97, 100], vS [107, 101, 121]] 9)) [.slice (some ⟨w7.heap.size, 0, none⟩) 2 2] nm_badK := lit_bad rfl rfl rfl rfl
    have zX7 := hX7.lt
    have zT7 := hT7.lt
    go_wp2_with fail
    refine (C_impl_SignWithKey _ _ t.1 _ nm_badK _ x.1 _ x.2.1 x.2.2.2.1 (Ty.rd_below (by (repeat' (first | (with_reducible exact Below.refl _ _) | (with_reducible assumption) | (with_reducible refine bel_set ?_ (by (try dsimp only); omega) _) | (with_reducible refine bel_alloc ?_ _) | (with_reducible refine bel_drewN ?_ _) | (with_reducible refine bel_drew ?_) | (with_reducible refine bel_trans ?_ (by assumption)))); done) tg0) hL7 (Ty.rd_below (by (repeat' (first | (with_reducible exact Below.refl _ _) | (with_reducible assumption) | (with_reducible refine bel_set ?_ (by (try dsimp only); omega) _) | (with_reducible refine bel_alloc ?_ _) | (with_reducible refine bel_drewN ?_ _) | (with_reducible refine bel_drew ?_) | (with_reducible refine bel_trans ?_ (by assumption)))); done) xg0) (Ty.rd_below (by (repeat' (first | (with_reducible exact Below.refl _ _) | (with_reducible assumption) | (with_reducible refine bel_set ?_ (by (try dsimp only); omega) _) | (with_reducible refine bel_alloc ?_ _) | (with_reducible refine bel_drewN ?_ _) | (with_reducible refine bel_drew ?_) | (with_reducible refine bel_trans ?_ (by assumption)))); done) xg1) hkb (by decide) hnb hcb xi3).mono ?_
    generalize f0_SignWithKey t.1 nm_badK x.1 x.2.1 x.2.2.2.1 = y at HKEY HBY ⊢
    generalize f1_SignWithKey t.1 nm_badK x.1 x.2.1 x.2.2.2.1 = yes at HKEY ⊢
    rintro e w8 ⟨cs8, fp8, rfl, how8, hfr8, hb8⟩
    obtain ⟨Ay0, cy0, Ay1, cy1, Ay2, cy2, rfl⟩ := ow_Data how8
    have hy8 := Ty.ow_rd how8
    have h78 : Below w7.heap.size w7 w8 := bel_trans (by repeat' (first | (with_reducible exact Below.refl _ _) | (with_reducible assumption) | (with_reducible refine bel_set ?_ (by (try dsimp only); omega) _) | (with_reducible refine bel_alloc ?_ _) | (with_reducible refine bel_drewN ?_ _) | (with_reducible refine bel_drew ?_))) hb8
    have hB8 : Below WB.heap.size WB w8 := bel_trans hB7 h78
    have hZ8 := hZ7.below h78 hZ7.lt
    obtain ⟨hT8, hX8⟩ := HC.out w8 hB8
    clear jT0 jT1 jT2 jT3 jX0 jX1 jX2 jX3 jX4
    have jT0 : w8.cell? ⟨w1.heap.size, 0, none⟩ = some (.slice At0 (List.length t.1) ct0) := hT8.cell 0
    have jT1 : w8.cell? ⟨w1.heap.size, 1, none⟩ = some (.slice At1 (List.length t.2.1) ct1) := hT8.cell 1
    have jT2 : w8.cell? ⟨w1.heap.size, 2, none⟩ = some (.slice At2 (List.length t.2.2.1) ct2) := hT8.cell 2
    have jT3 : w8.cell? ⟨w1.heap.size, 3, none⟩ = some (.slice At3 (List.length t.2.2.2) ct3) := hT8.cell 3
    have jX0 : w8.cell? ⟨w1.heap.size + 1, 0, none⟩ = some (.slice Ax0 (List.length x.1) cx0) := hX8.cell 0
    have jX1 : w8.cell? ⟨w1.heap.size + 1, 1, none⟩ = some (.slice Ax1 (List.length x.2.1) cx1) := hX8.cell 1
    have jX2 : w8.cell? ⟨w1.heap.size + 1, 2, none⟩ = some (.slice Ax2 (List.length x.2.2.1) cx2) := hX8.cell 2
    have jX3 : w8.cell? ⟨w1.heap.size + 1, 3, none⟩ = some (.int .i64 x.2.2.2.1) := hX8.cell 3
    have jX4 : w8.cell? ⟨w1.heap.size + 1, 4, none⟩ = some (.int .i64 x.2.2.2.2) := hX8.cell 4
    clear how8 hfr8 hb8
    have zX8 := hX8.lt
    have zT8 := hT8.lt
    go_wp2_with fail
    obtain ⟨w9, hw9⟩ : ∃ w9, w9 = (w8.alloc (.cells #[.slice Ay0 (List.length y.1) cy0, .slice Ay1 (List.length y.2.1) cy1, .slice Ay2 (List.length y.2.2.1) cy2, .int .i64 y.2.2.2.1, .int .i64 y.2.2.2.2] 34)).alloc (.cells #[.slice Ax0 (List.length x.1) cx0, .slice Ax1 (List.length x.2.1) cx1, .slice Ax2 (List.length x.2.2.1) cx2, .int .i64 x.2.2.2.1, .int .i64 x.2.2.2.2] 34) := ⟨_, rfl⟩
    have h89 : Below w8.heap.size w8 w9 := by rw [hw9]; exact (by (repeat' (first | (with_reducible exact Below.refl _ _) | (with_reducible assumption) | (with_reducible refine bel_set ?_ (by (try dsimp only); omega) _) | (with_reducible refine bel_alloc ?_ _) | (with_reducible refine bel_drewN ?_ _) | (with_reducible refine bel_drew ?_) | (with_reducible refine bel_trans ?_ (by assumption)))); done)
    have hB9 : Below WB.heap.size WB w9 := bel_trans hB8 h89
    have hY9 : Blk w9 w8.heap.size 34 #[.slice Ay0 (List.length y.1) cy0, .slice Ay1 (List.length y.2.1) cy1, .slice Ay2 (List.length y.2.2.1) cy2, .int .i64 y.2.2.2.1, .int .i64 y.2.2.2.2] := by rw [hw9]; exact (Blk.new _ _ _).alloc _
    have hV9 : Blk w9 (w8.heap.size + 1) 34 #[.slice Ax0 (List.length x.1) cx0, .slice Ax1 (List.length x.2.1) cx1, .slice Ax2 (List.length x.2.2.1) cx2, .int .i64 x.2.2.2.1, .int .i64 x.2.2.2.2] := by rw [hw9]; have := Blk.new (w8.alloc (.cells #[.slice Ay0 (List.length y.1) cy0, .slice Ay1 (List.length y.2.1) cy1, .slice Ay2 (List.length y.2.2.1) cy2, .int .i64 y.2.2.2.1, .int .i64 y.2.2.2.2] 34)) 34 #[.slice Ax0 (List.length x.1) cx0, .slice Ax1 (List.length x.2.1) cx1, .slice Ax2 (List.length x.2.2.1) cx2, .int .i64 x.2.2.2.1, .int .i64 x.2.2.2.2]; rw [World.size_alloc] at this; exact this
    have hZ9 := hZ8.below h89 hZ8.lt
    have hy9 := Ty.rd_below h89 hy8
    have z89 := hB8.size
    have zV9 := hV9.lt
    rw [← hw9]
    clear hw9
    have h09 := Ty.rd_below hB9 h0B
    have fV4 : w9.frozen? ⟨w8.heap.size + 1, 4, none⟩ = false := hV9.f1
    have hv3 := wrap3 hSG
    obtain ⟨hT9, hX9⟩ := HC.out w9 hB9
    clear jT0 jT1 jT2 jT3 jX0 jX1 jX2 jX3 jX4
    have jT0 : w9.cell? ⟨w1.heap.size, 0, none⟩ = some (.slice At0 (List.length t.1) ct0) := hT9.cell 0
    have jT1 : w9.cell? ⟨w1.heap.size, 1, none⟩ = some (.slice At1 (List.length t.2.1) ct1) := hT9.cell 1
    have jT2 : w9.cell? ⟨w1.heap.size, 2, none⟩ = some (.slice At2 (List.length t.2.2.1) ct2) := hT9.cell 2
    have jT3 : w9.cell? ⟨w1.heap.size, 3, none⟩ = some (.slice At3 (List.length t.2.2.2) ct3) := hT9.cell 3
    have jX0 : w9.cell? ⟨w1.heap.size + 1, 0, none⟩ = some (.slice Ax0 (List.length x.1) cx0) := hX9.cell 0
    have jX1 : w9.cell? ⟨w1.heap.size + 1, 1, none⟩ = some (.slice Ax1 (List.length x.2.1) cx1) := hX9.cell 1
    have jX2 : w9.cell? ⟨w1.heap.size + 1, 2, none⟩ = some (.slice Ax2 (List.length x.2.2.1) cx2) := hX9.cell 2
    have jX3 : w9.cell? ⟨w1.heap.size + 1, 3, none⟩ = some (.int .i64 x.2.2.2.1) := hX9.cell 3
    have jX4 : w9.cell? ⟨w1.heap.size + 1, 4, none⟩ = some (.int .i64 x.2.2.2.2) := hX9.cell 4
    have jV0 : w9.cell? ⟨w8.heap.size + 1, 0, none⟩ = some (.slice Ax0 (List.length x.1) cx0) := hV9.cell 0
    have jV1 : w9.cell? ⟨w8.heap.size + 1, 1, none⟩ = some (.slice Ax1 (List.length x.2.1) cx1) := hV9.cell 1
    have jV2 : w9.cell? ⟨w8.heap.size + 1, 2, none⟩ = some (.slice Ax2 (List.length x.2.2.1) cx2) := hV9.cell 2
    have jV3 : w9.cell? ⟨w8.heap.size + 1, 3, none⟩ = some (.int .i64 x.2.2.2.1) := hV9.cell 3
    have jV4 : w9.cell? ⟨w8.heap.size + 1, 4, none⟩ = some (.int .i64 x.2.2.2.2) := hV9.cell 4
    refine wp_region_noPanic ?_
    refine wp_region_held_drew (S := (fun W => W.cell? ⟨w1.heap.size + 1, 4, none⟩ = some (.int .i64 x.2.2.2.2))) (by kernel_rfl) ?_ (fun hHeld => ?_)
    · exact (HC.out _ (by (repeat' (first | (with_reducible exact Below.refl _ _) | (with_reducible assumption) | (with_reducible refine bel_set ?_ (by (try dsimp only); omega) _) | (with_reducible refine bel_alloc ?_ _) | (with_reducible refine bel_drewN ?_ _) | (with_reducible refine bel_drew ?_) | (with_reducible refine bel_trans ?_ (by assumption)))); done)).2.cell 4
    refine tk 0 (opN rfl) (by kernel_rfl) (by rfl) (by (intro w hSw; (try dsimp only at hSw); go_simp; first | done | with_reducible rfl)) (by assumption) ?_
    try simp only [Act.put, List.setIfInBounds_toArray, List.set_cons_zero, List.set_cons_succ]
    refine tk 3 (opN rfl) (by kernel_rfl) (by rfl) (by (intro w hSw; (try dsimp only at hSw); go_simp; first | done | with_reducible rfl)) (by assumption) ?_
    try simp only [Act.put, List.setIfInBounds_toArray, List.set_cons_zero, List.set_cons_succ]
    refine tk 1 (opN rfl) (by kernel_rfl) (by rfl) (by (intro w hSw; (try dsimp only at hSw); go_simp; first | done | with_reducible rfl)) (by assumption) ?_
    try simp only [Act.put, List.setIfInBounds_toArray, List.set_cons_zero, List.set_cons_succ]
    refine tk 2 (opN rfl) (by kernel_rfl) (by rfl) (by (intro w hSw; (try dsimp only at hSw); go_simp; first | done | with_reducible rfl)) (by assumption) ?_
    try simp only [Act.put, List.setIfInBounds_toArray, List.set_cons_zero, List.set_cons_succ]
    refine wpAnyH_ready (rs := [4]) (by kernel_rfl) (by simp) ?_
    refine (AllReadyH.cons (opN rfl) (fun K hK => ?_) AllReadyH.nil)
    go_simp
    go_at_call 33
    refine (C_laws_at _ _ x0 4 (Ty.rd_below (by (repeat' (first | (with_reducible exact Below.refl _ _) | (with_reducible assumption) | (with_reducible refine bel_set ?_ (by (try dsimp only); omega) _) | (with_reducible refine bel_alloc ?_ _) | (with_reducible refine bel_drewN ?_ _) | (with_reducible refine bel_drew ?_) | (with_reducible refine bel_trans ?_ (by assumption)))); done) h09) (by omega) (by decide)).mono ?_
    rintro e w10 ⟨hw10, m, rfl, m0, m1⟩
    subst hw10
    have hv4 := wrap4 hSG m0 m1
    have hv5 := rem5 hSG m0 m1
    refine hK.out _ _ ?_ (fun hHeld => ?_)
    · (try dsimp only)
      exact (HC.out _ (by (repeat' (first | (with_reducible exact Below.refl _ _) | (with_reducible assumption) | (with_reducible refine bel_set ?_ (by (try dsimp only); omega) _) | (with_reducible refine bel_alloc ?_ _) | (with_reducible refine bel_drewN ?_ _) | (with_reducible refine bel_drew ?_) | (with_reducible refine bel_trans ?_ (by assumption)))); done)).2.cell 4
    clear hK K
    try simp only [Act.put, List.setIfInBounds_toArray, List.set_cons_zero, List.set_cons_succ]
    refine tk 5 (opN rfl) (by kernel_rfl) (by rfl) (by (intro w hSw; (try dsimp only at hSw); go_simp; first | done | with_reducible rfl)) (by assumption) ?_
    try simp only [Act.put, List.setIfInBounds_toArray, List.set_cons_zero, List.set_cons_succ]
    refine tk 6 (opN rfl) (by kernel_rfl) (by rfl) (by (intro w hSw; (try dsimp only at hSw); go_simp; first | done | with_reducible rfl)) (by assumption) ?_
    try simp only [Act.put, List.setIfInBounds_toArray, List.set_cons_zero, List.set_cons_succ]
    refine tk 7 (opN rfl) (by kernel_rfl) (by rfl) (by (intro w hSw; (try dsimp only at hSw); go_simp; first | done | with_reducible rfl)) (by assumption) ?_
    try simp only [Act.put, List.setIfInBounds_toArray, List.set_cons_zero, List.set_cons_succ]
    refine wpAnyH_ready (rs := [8]) (by kernel_rfl) (by simp) ?_
    refine (AllReadyH.cons (opN rfl) (fun K hK => ?_) AllReadyH.nil)
    go_simp
    refine hK.out _ _ ?_ (fun hHeld => ?_)
    · (try dsimp only)
      exact (HC.out _ (by (repeat' (first | (with_reducible exact Below.refl _ _) | (with_reducible assumption) | (with_reducible refine bel_set ?_ (by (try dsimp only); omega) _) | (with_reducible refine bel_alloc ?_ _) | (with_reducible refine bel_drewN ?_ _) | (with_reducible refine bel_drew ?_) | (with_reducible refine bel_trans ?_ (by assumption)))); done)).2.cell 4
    clear hK K
    try simp only [Act.put, List.setIfInBounds_toArray, List.set_cons_zero, List.set_cons_succ]
    refine wpAnyH_done (by kernel_rfl) ?_ _
    refine NoPanic.normal ?_
    obtain ⟨w10, hw10⟩ : ∃ w10, w10 = (w9.setCell ⟨w8.heap.size + 1, 4, none⟩ (.int .i64 ((x.2.2.2.2 + 1 + m) % 2147483647))).drew := ⟨_, rfl⟩
    have hB10 : Below WB.heap.size WB w10 := by rw [hw10]; exact (by (repeat' (first | (with_reducible exact Below.refl _ _) | (with_reducible assumption) | (with_reducible refine bel_set ?_ (by (try dsimp only); omega) _) | (with_reducible refine bel_alloc ?_ _) | (with_reducible refine bel_drewN ?_ _) | (with_reducible refine bel_drew ?_) | (with_reducible refine bel_trans ?_ (by assumption)))); done)
    have h8A : Below (w8.heap.size + 1) w9 w10 := by rw [hw10]; exact ((Below.refl (w8.heap.size + 1) w9).setCell (p := ⟨w8.heap.size + 1, 4, none⟩) (Nat.le_refl _) _).drew
    have hVA : Blk w10 (w8.heap.size + 1) 34 #[.slice Ax0 (List.length x.1) cx0, .slice Ax1 (List.length x.2.1) cx1, .slice Ax2 (List.length x.2.2.1) cx2, .int .i64 x.2.2.2.1, .int .i64 ((x.2.2.2.2 + 1 + m) % 2147483647)] := by rw [hw10]; exact (hV9.set_ 4 _).drew
    rw [← hw10]
    clear hw10
    clear jT0 jT1 jT2 jT3 jX0 jX1 jX2 jX3 jX4
    clear hv3 hv4 hv5 fV4 jV0 jV1 jV2 jV3 jV4
    have hYA : Blk w10 w8.heap.size 34 #[.slice Ay0 (List.length y.1) cy0, .slice Ay1 (List.length y.2.1) cy1, .slice Ay2 (List.length y.2.2.1) cy2, .int .i64 y.2.2.2.1, .int .i64 y.2.2.2.2] := (h8A.block _ (by omega)).trans hY9
    have hZA : Blk w10 w5.heap.size 34 #[.slice Ax0 (List.length x.1) cx0, .slice Ax1 (List.length x.2.1) cx1, .slice Ax2 (List.length x.2.2.1) cx2, .int .i64 (x.2.2.2.1 + 1 + k), .int .i64 x.2.2.2.2] := (h8A.block _ (by have := hZ8.lt; omega)).trans hZ9
    have hyA : tData.rd w10 _ y := Ty.rd_below (h89.trans (h8A.mono (by omega))) hy8
    have hzA : tData.rd w10 [.slice Ax0 (List.length x.1) cx0, .slice Ax1 (List.length x.2.1) cx1, .slice Ax2 (List.length x.2.2.1) cx2, .int .i64 (x.2.2.2.1 + 1 + k), .int .i64 x.2.2.2.2] (withUntil x (x.2.2.2.1 + 1 + k)) := ⟨[_], _, rfl, Ty.rd_below hB10 xg0, [_], _, rfl, Ty.rd_below hB10 xg1, [_], _, rfl, Ty.rd_below hB10 xg2, [_], [_], rfl, ⟨rfl, bnd1 hFU k0 k1⟩, ⟨rfl, xi4⟩⟩
    have hvA : tData.rd w10 [.slice Ax0 (List.length x.1) cx0, .slice Ax1 (List.length x.2.1) cx1, .slice Ax2 (List.length x.2.2.1) cx2, .int .i64 x.2.2.2.1, .int .i64 ((x.2.2.2.2 + 1 + m) % 2147483647)] (signed x ((x.2.2.2.2 + 1 + m) % 2147483647)) := ⟨[_], _, rfl, Ty.rd_below hB10 xg0, [_], _, rfl, Ty.rd_below hB10 xg1, [_], _, rfl, Ty.rd_below hB10 xg2, [_], [_], rfl, ⟨rfl, xi3⟩, ⟨rfl, bnd2 _⟩⟩
    have HNZ := Lib.hid (not_until (a := 50) k0 k1 hok1.2.2 hok1.1)
    have HNV := Lib.hid (not_sig (a := 50) hSG m0 m1 hok1.2.2 hok1.1)
    obtain ⟨hTA, -⟩ := HC.out w10 hB10
    have jT0 : w10.cell? ⟨w1.heap.size, 0, none⟩ = some (.slice At0 (List.length t.1) ct0) := hTA.cell 0
    have jT1 : w10.cell? ⟨w1.heap.size, 1, none⟩ = some (.slice At1 (List.length t.2.1) ct1) := hTA.cell 1
    have jT2 : w10.cell? ⟨w1.heap.size, 2, none⟩ = some (.slice At2 (List.length t.2.2.1) ct2) := hTA.cell 2
    have jT3 : w10.cell? ⟨w1.heap.size, 3, none⟩ = some (.slice At3 (List.length t.2.2.2) ct3) := hTA.cell 3
    have jZ0 : w10.cell? ⟨w5.heap.size, 0, none⟩ = some (.slice Ax0 (List.length x.1) cx0) := hZA.cell 0
    have jZ1 : w10.cell? ⟨w5.heap.size, 1, none⟩ = some (.slice Ax1 (List.length x.2.1) cx1) := hZA.cell 1
    have jZ2 : w10.cell? ⟨w5.heap.size, 2, none⟩ = some (.slice Ax2 (List.length x.2.2.1) cx2) := hZA.cell 2
    have jZ3 : w10.cell? ⟨w5.heap.size, 3, none⟩ = some (.int .i64 (x.2.2.2.1 + 1 + k)) := hZA.cell 3
    have jZ4 : w10.cell? ⟨w5.heap.size, 4, none⟩ = some (.int .i64 x.2.2.2.2) := hZA.cell 4
    go_wp2_with fail
    refine (C_impl_IsTrusted _ _ t _ (withUntil x (x.2.2.2.1 + 1 + k)) 50 (Ty.rd_below hB10 ht) hzA hbt hbx i50).mono ?_
    rw [HNZ.out]
    rintro e w11 ⟨rfl, hb11⟩
    have hB11 := bel_trans hB10 hb11
    obtain ⟨hTB, -⟩ := HC.out w11 hB11
    have hVB := hVA.below hb11 hVA.lt
    clear jT0 jT1 jT2 jT3
    clear jZ0 jZ1 jZ2 jZ3 jZ4
    have jT0 : w11.cell? ⟨w1.heap.size, 0, none⟩ = some (.slice At0 (List.length t.1) ct0) := hTB.cell 0
    have jT1 : w11.cell? ⟨w1.heap.size, 1, none⟩ = some (.slice At1 (List.length t.2.1) ct1) := hTB.cell 1
    have jT2 : w11.cell? ⟨w1.heap.size, 2, none⟩ = some (.slice At2 (List.length t.2.2.1) ct2) := hTB.cell 2
    have jT3 : w11.cell? ⟨w1.heap.size, 3, none⟩ = some (.slice At3 (List.length t.2.2.2) ct3) := hTB.cell 3
    have jV0 : w11.cell? ⟨w8.heap.size + 1, 0, none⟩ = some (.slice Ax0 (List.length x.1) cx0) := hVB.cell 0
    have jV1 : w11.cell? ⟨w8.heap.size + 1, 1, none⟩ = some (.slice Ax1 (List.length x.2.1) cx1) := hVB.cell 1
    have jV2 : w11.cell? ⟨w8.heap.size + 1, 2, none⟩ = some (.slice Ax2 (List.length x.2.2.1) cx2) := hVB.cell 2
    have jV3 : w11.cell? ⟨w8.heap.size + 1, 3, none⟩ = some (.int .i64 x.2.2.2.1) := hVB.cell 3
    have jV4 : w11.cell? ⟨w8.heap.size + 1, 4, none⟩ = some (.int .i64 ((x.2.2.2.2 + 1 + m) % 2147483647)) := hVB.cell 4
    go_wp2_with fail
    refine (C_impl_IsTrusted _ _ t _ (signed x ((x.2.2.2.2 + 1 + m) % 2147483647)) 50 (Ty.rd_below hB11 ht) (Ty.rd_below hb11 hvA) hbt hbx i50).mono ?_
    rw [HNV.out]
    rintro e w12 ⟨rfl, hb12⟩
    have hB12 := bel_trans hB11 hb12
    have h1012 := bel_trans hb11 hb12
    obtain ⟨hTD, -⟩ := HC.out w12 hB12
    have hYD := hYA.below h1012 hYA.lt
    clear jT0 jT1 jT2 jT3
    clear jV0 jV1 jV2 jV3 jV4
    have jT0 : w12.cell? ⟨w1.heap.size, 0, none⟩ = some (.slice At0 (List.length t.1) ct0) := hTD.cell 0
    have jT1 : w12.cell? ⟨w1.heap.size, 1, none⟩ = some (.slice At1 (List.length t.2.1) ct1) := hTD.cell 1
    have jT2 : w12.cell? ⟨w1.heap.size, 2, none⟩ = some (.slice At2 (List.length t.2.2.1) ct2) := hTD.cell 2
    have jT3 : w12.cell? ⟨w1.heap.size, 3, none⟩ = some (.slice At3 (List.length t.2.2.2) ct3) := hTD.cell 3
    have jY0 : w12.cell? ⟨w8.heap.size, 0, none⟩ = some (.slice Ay0 (List.length y.1) cy0) := hYD.cell 0
    have jY1 : w12.cell? ⟨w8.heap.size, 1, none⟩ = some (.slice Ay1 (List.length y.2.1) cy1) := hYD.cell 1
    have jY2 : w12.cell? ⟨w8.heap.size, 2, none⟩ = some (.slice Ay2 (List.length y.2.2.1) cy2) := hYD.cell 2
    have jY3 : w12.cell? ⟨w8.heap.size, 3, none⟩ = some (.int .i64 y.2.2.2.1) := hYD.cell 3
    have jY4 : w12.cell? ⟨w8.heap.size, 4, none⟩ = some (.int .i64 y.2.2.2.2) := hYD.cell 4
    cases yes with
    | false =>
      go_wp2
      go_ret
      exact ⟨rfl, bel_trans hwB hB12⟩
    | true =>
      go_wp2_with fail
      refine (C_impl_IsTrusted _ _ t _ y 50 (Ty.rd_below hB12 ht) (Ty.rd_below h1012 hyA) hbt HBY.out i50).mono ?_
      rw [HKEY.out (by first | rfl | trivial)]
      rintro e w13 ⟨rfl, hb13⟩
      go_wp2
      go_ret
      exact ⟨rfl, bel_trans hwB (bel_trans hB12 hb13)⟩
end Go.Proofs.YtldgbnlcnlfmeaaGreat

/- Proved here: the given statement FnForgersSaid: without a secret of a key that may sign a name, nobody makes trusted data of this name; the law returns true for all inputs. Conditions: none. -/
namespace Go.Proofs.YtldgbnlcnlfmeaaGreat.clFnForgers
open Go.ChangeShapes Go.WideShapes Go.ChangeAt Go.RowKit
set_option linter.unusedVariables false

theorem own : ownKnob Tryz.prog.godebug = none := by kernel_rfl
theorem laidOut : laidOutB Tryz.prog = true := by kernel_rfl
section
variable {H : Type} {enc : TypeId × Value → H} {w : World} {base : Nat} {spare : Nat → Bool} {held : Bool}
theorem o_byte : Opens enc Tryz.prog w base spare held 5 .byte := opens_byte Tryz.underlying5
theorem o_ByteS : Opens enc Tryz.prog w base spare held 22 (.sl .byte) := opens_sl Tryz.underlying22 (by kernel_rfl) (by decide) o_byte
end

set_option maxRecDepth 100000 in
theorem lifted (os : Os) (started : os.Started) (H : Type) (enc : TypeId × Value → H) :
    ReturnsInHanded {} Tryz.checked os 4 .any (Rows.fnForgersSpec.pre6 enc Tryz.prog Tryz.f4 Rows.fnForgersRow.domain false) (Rows.fnForgersSpec.post enc Tryz.prog Tryz.f4 false true false false) := by
  refine returnsInHanded_of_change (C := Tryz.checked) own started (by kernel_rfl) Tryz.func4
    (ChangeSpec.witness6 (enc := enc) (C := Tryz.checked) false ⟨#[], #[.slice none 0 0], []⟩ 8 (by kernel_rfl) (by kernel_rfl) (by kernel_rfl) (by kernel_rfl)) ?_
  intro W base args ds gs before hval0 hW hcnd _
  have hval : ∀ (j : Nat) t v, Tryz.f4.params[j]? = some t → args[j]? = some v → Value.okWide Tryz.prog W .any base t v := hval0
  have hW' := hW
  obtain ⟨p, q, hA0, hV, rfl, hfz, hnd⟩ := hW
  have hA : DataW.TrodAll enc Tryz.prog W 0 (fun _ => true) true Tryz.f4.params.toList args.toList ds p := hA0
  rw [Tryz.params4] at hA hval
  obtain ⟨v0, vs0, d0, ds0, p0, q0, hargs, rfl, rfl, h0, r0⟩ := trodAll_cons hA
  obtain ⟨rfl, rfl, rfl⟩ := trodAll_nil r0
  obtain rfl : args = #[v0] := by cases args; simp_all
  obtain ⟨rfl, rfl⟩ := trodVars_none hV
  have k0 := h0
  have lt0 : ∀ x ∈ p0, x.block < W.heap.size := by obtain ⟨m, hm⟩ := k0; exact DataW.trod_lt m _ _ _ hm
  obtain ⟨A0, n0, c0, rfl⟩ := okWide_slice Tryz.underlying22 (hval 0 22 v0 rfl rfl)
  obtain ⟨f0, g0⟩ := h0
  obtain ⟨x0, xh0⟩ := o_ByteS _ _ _ g0
  clear hA0 hval0
  refine (L_FnForgers W _ x0 xh0).mono fun e W' ⟨he, bel⟩ => ?_
  subst he
  exact ⟨_, rfl, _, _, _, [], _, [], hW', trodAll_mk1 (shut_bool Tryz.underlying4 _), (trodAll_cons_mk (Below.trod laidOut (by kernel_rfl) (of_decide_eq_true (by kernel_rfl)) k0 bel lt0) trodAll_mk0), rfl, bel.frame _, fun h => by cases h⟩

theorem proved : Rows.FnForgersSaid :=
  OpenClaim.holds_of_wide 4 Tryz.f4 rfl rfl rfl rfl rfl rfl rfl ⟨rfl, rfl, rfl, rfl, rfl⟩ rfl rfl rfl rfl rfl (by kernel_rfl) Tryz.func4 (by kernel_rfl)
    (of_decide_eq_true (by kernel_rfl)) (by unfold Func.isWrapper; first | (rw [if_pos (by decide +kernel)]; kernel_rfl) | (rw [if_neg (by decide +kernel)]; exact ⟨rfl, rfl⟩))
    (fun os started H enc _ => lifted os started H enc)
end Go.Proofs.YtldgbnlcnlfmeaaGreat.clFnForgers
