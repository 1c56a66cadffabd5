/- Proved here: the given statement FnOldPapersSaid: after a certificate has expired, nothing signed by its key is trusted, unless the key is an anchor; the law returns true for all inputs. Conditions: none. -/
/- Texts of this claim, merged by a program: Dmd Old Lat LFnOldPapers ClFnOldPapers. -/
import Derived.Test.YtldgbnlcnlfmeaaMo16
import Derived.Deep.RegionHeld3
import Derived.Test.YtldgbnlcnlfmeaaMo12
import Derived.Test.YtldgbnlcnlfmeaaMo2
import Derived.Test.YtldgbnlcnlfmeaaMo1
import Derived.BigQuiet
import Derived.Test.YtldgbnlcnlfmeaaMo0
import Derived.ShutString
/- What is believed, and a thing, drawn. Printed by gen61.py. -/
namespace Go.Proofs.Ytldgbnlcnlfmeaa
open Go.RowKit
set_option linter.unusedVariables false
set_option linter.unusedSimpArgs false

set_option maxRecDepth 100000 in
set_option maxHeartbeats 2000000 in
theorem C_spec_DrawMade (w : World) (v : Value) (b : List UInt8) (h : (Ty.sl .byte).rd w [v] b) :
    Calls Try.prog 14 #[v] w (fun e w' => ∃ cs1 t cs2 x, e = .returned (.tuple #[.agg cs1.toArray, .agg cs2.toArray]) ∧ tTrustPolicy.rd w' cs1 t ∧ tData.rd w' cs2 x ∧ okTrust t ∧ okMade x ∧ Below w.heap.size w w') := by
  obtain ⟨Ac, cc, rfl, _, _, _⟩ := Ty.rd_sl h
  go_enter Try.func14, Try.ntmps14
  go_wp2_with fail
  refine (C_spec_l1New _ _ b (Ty.rd_below (by repeat' (first | (with_reducible exact Below.refl _ _) | (with_reducible assumption) | (with_reducible refine bel_set ?_ (by (try dsimp only); omega) _) | (with_reducible refine bel_alloc ?_ _) | (with_reducible refine bel_drewN ?_ _) | (with_reducible refine bel_drew ?_))) h)).mono ?_
  rintro e w1 ⟨rfl, hb1, hc1⟩
  simp only [World.size_alloc] at hc1 ⊢
  have z1 := hc1.lt
  have hO1 : Blk w1 w.heap.size 44 #[.slice none 0 0, .slice none 0 0, .slice none 0 0, .slice none 0 0] := ((Blk.new w _ _).alloc _).below hb1 (by simp only [World.size_alloc]; omega)
  have hP1 : Blk w1 (w.heap.size + 1) 46 #[.slice none 0 0, .slice none 0 0, .slice none 0 0, .int .i64 0, .int .i64 0] := (by have := Blk.new (w.alloc (.cells #[.slice none 0 0, .slice none 0 0, .slice none 0 0, .slice none 0 0] 44)) 46 #[.slice none 0 0, .slice none 0 0, .slice none 0 0, .int .i64 0, .int .i64 0]; rw [World.size_alloc] at this; exact this.below hb1 (by simp only [World.size_alloc]; omega))
  have D1 : Dr (w.heap.size + 1 + 1) w w1 := Dr.of (bel_trans (by repeat' (first | (with_reducible exact Below.refl _ _) | (with_reducible assumption) | (with_reducible refine bel_set ?_ (by (try dsimp only); omega) _) | (with_reducible refine bel_alloc ?_ _) | (with_reducible refine bel_drewN ?_ _) | (with_reducible refine bel_drew ?_))) hb1) _
  clear hb1
  go_wp2_with fail
  refine (C_spec_l11Trust _ (w.heap.size + 1 + 1) (by repeat' (first | (with_reducible assumption) | (with_reducible refine Cur.far ?_ (by (try dsimp only); omega) _) | (with_reducible refine Cur.alloc ?_ _) | (with_reducible refine Cur.drewN ?_ _) | (with_reducible refine Cur.drew ?_)))).mono ?_
  rintro e w2 ⟨hd2, hc2, v1, v2, v3, v4, t, f1, f2, f3, f4, m1, m2, rfl, p1, p2, p3, p4, hf1, hf3, hf2, hf4, hm1, hm2, hok⟩
  have z2 := hd2.size
  have D2 := D1.trans hd2
  have hO2 := Dr.blk hd2 hO1 (by omega)
  have hP2 := Dr.blk hd2 hP1 (by omega)
  obtain ⟨A1, c1, e1⟩ := Ty.ow_slv p1
  obtain ⟨A2, c2, e2⟩ := Ty.ow_slv p2
  obtain ⟨A3, c3, e3⟩ := Ty.ow_slv p3
  obtain ⟨A4, c4, e4⟩ := Ty.ow_slv p4
  simp only [List.cons.injEq, and_true] at e1 e2 e3 e4
  subst e1 e2 e3 e4
  have q1 : RdI (.sl tKey) w1.heap.size w2.heap.size w2 _ t.1 := RdI.of_ow p1 (fun b hb => ⟨(hf1.2 b hb).1, Ty.ow_lt p1 b hb⟩) (Nat.le_refl _)
  have q2 : RdI (.sl tRule) w1.heap.size w2.heap.size w2 _ t.2.1 := RdI.of_ow p2 (fun b hb => ⟨by have := (hf2.2 b hb).1; omega, Ty.ow_lt p2 b hb⟩) (Nat.le_refl _)
  have q3 : RdI (.sl (.sl .str)) w1.heap.size w2.heap.size w2 _ t.2.2.1 := RdI.of_ow p3 (fun b hb => ⟨(hf3.2 b hb).1, Ty.ow_lt p3 b hb⟩) (Nat.le_refl _)
  have q4 : RdI (.sl tData) w1.heap.size w2.heap.size w2 _ t.2.2.2 := RdI.of_ow p4 (fun b hb => ⟨by have := (hf4.2 b hb).1; omega, Ty.ow_lt p4 b hb⟩) (Nat.le_refl _)
  have QT : RdI tTrustPolicy w1.heap.size w2.heap.size w2 [.slice A1 (List.length t.1) c1, .slice A2 (List.length t.2.1) c2, .slice A3 (List.length t.2.2.1) c3, .slice A4 (List.length t.2.2.2) c4] t := RdI.pr q1 (RdI.pr q2 (RdI.pr q3 q4))
  obtain ⟨WT, hWT⟩ : ∃ WT, WT = w2.alloc (.cells #[.slice A1 (List.length t.1) c1, .slice A2 (List.length t.2.1) c2, .slice A3 (List.length t.2.2.1) c3, .slice A4 (List.length t.2.2.2) c4] 44) := ⟨_, rfl⟩
  have ET : Dr (w.heap.size + 1 + 1) w2 WT := by rw [hWT]; exact (by repeat' (first | (with_reducible exact Dr.refl _ _) | (with_reducible assumption) | (with_reducible refine Dr.set ?_ (by (try dsimp only); omega) _) | (with_reducible refine Dr.alloc ?_ _) | (with_reducible refine Dr.drewN ?_ _) | (with_reducible refine Dr.drew ?_) | (with_reducible refine Dr.trans ?_ (by assumption))))
  have hcT : CurT WT (w.heap.size + 1 + 1) := by rw [hWT]; exact (by repeat' (first | (with_reducible assumption) | (with_reducible refine Cur.far ?_ (by (try dsimp only); omega) _) | (with_reducible refine Cur.alloc ?_ _) | (with_reducible refine Cur.drewN ?_ _) | (with_reducible refine Cur.drew ?_)))
  have hT : Blk WT w2.heap.size 44 #[.slice A1 (List.length t.1) c1, .slice A2 (List.length t.2.1) c2, .slice A3 (List.length t.2.2.1) c3, .slice A4 (List.length t.2.2.2) c4] := by rw [hWT]; exact Blk.new _ _ _
  have DT := D2.trans ET
  have hOT := Dr.blk ET hO2 (by omega)
  have hPT := Dr.blk ET hP2 (by omega)
  have QTT := QT.dr ET (by omega)
  obtain ⟨n1, hn1⟩ : ∃ n, n = List.length t.1 := ⟨_, rfl⟩
  have hkT : (Ty.sl tKey).rd (hide (w.heap.size + 1 + 1) WT) [.slice A1 n1 c1] t.1 := by rw [hn1]; exact (q1.dr ET (by omega)).hide (by omega)
  rw [hok.1] at hkT
  subst hn1
  have zT := hT.lt
  go_wp2_with fail
  rw [← hWT]
  clear hWT hd2 hc1 hc2 D1 D2 ET hO1 hO2 hP1 hP2 p1 p2 p3 p4 q1 q2 q3 q4 QT hf1 hf2 hf3 hf4
  refine wp_region_noPanic ?_
  refine wp_region_held_drew (S := (fun W => W.cell? ⟨w2.heap.size, 0, none⟩ = some (.slice A1 (List.length t.1) c1) ∧ W.cell? ⟨w2.heap.size, 1, none⟩ = some (.slice A2 (List.length t.2.1) c2) ∧ W.cell? ⟨w2.heap.size, 2, none⟩ = some (.slice A3 (List.length t.2.2.1) c3) ∧ W.cell? ⟨w2.heap.size, 3, none⟩ = some (.slice A4 (List.length t.2.2.2) c4))) (by kernel_rfl) ?_ (fun hHeld => ?_)
  · exact ⟨hT.cell 0, hT.cell 1, hT.cell 2, hT.cell 3⟩
  refine tk 0 (opN rfl) (by kernel_rfl) (by rfl) (by (intro w hSw; (try dsimp only at hSw); go_simp; first | done | with_reducible rfl)) (by assumption) ?_
  try simp only [Act.put, List.setIfInBounds_toArray, List.set_cons_zero, List.set_cons_succ]
  refine tk 1 (opN rfl) (by kernel_rfl) (by rfl) (by (intro w hSw; (try dsimp only at hSw); go_simp; first | done | with_reducible rfl)) (by assumption) ?_
  try simp only [Act.put, List.setIfInBounds_toArray, List.set_cons_zero, List.set_cons_succ]
  refine tk 2 (opN rfl) (by kernel_rfl) (by rfl) (by (intro w hSw; (try dsimp only at hSw); go_simp; first | done | with_reducible rfl)) (by assumption) ?_
  try simp only [Act.put, List.setIfInBounds_toArray, List.set_cons_zero, List.set_cons_succ]
  refine wpAnyH_ready (rs := [3]) (by kernel_rfl) (by simp) ?_
  refine (AllReadyH.cons (opN rfl) (fun K hK => ?_) AllReadyH.nil)
  go_simp
  go_at_call 81
  refine (C_spec_l11Made _ (w.heap.size + 1 + 1) (by repeat' (first | (with_reducible assumption) | (with_reducible refine Cur.far ?_ (by (try dsimp only); omega) _) | (with_reducible refine Cur.alloc ?_ _) | (with_reducible refine Cur.drewN ?_ _) | (with_reducible refine Cur.drew ?_))) _ _ _ _ _ _ _ _ _ _ _ _ (Dr.rd (by repeat' (first | (with_reducible exact Dr.refl _ _) | (with_reducible assumption) | (with_reducible refine Dr.set ?_ (by (try dsimp only); omega) _) | (with_reducible refine Dr.alloc ?_ _) | (with_reducible refine Dr.drewN ?_ _) | (with_reducible refine Dr.drew ?_) | (with_reducible refine Dr.trans ?_ (by assumption)))) hkT)).mono ?_
  rintro e w3 ⟨hd3, hc3, cs3, x, rfl, hx3, hmk⟩
  obtain ⟨B0, d0, B1, d1, B2, d2, rfl, -⟩ := rd_Data hx3.rd
  have z3 := hd3.size
  (try simp only [World.size_drew, size_drewN] at z3)
  have E3 : Dr (w.heap.size + 1 + 1) WT w3 := (by repeat' (first | (with_reducible exact Dr.refl _ _) | (with_reducible assumption) | (with_reducible refine Dr.set ?_ (by (try dsimp only); omega) _) | (with_reducible refine Dr.alloc ?_ _) | (with_reducible refine Dr.drewN ?_ _) | (with_reducible refine Dr.drew ?_) | (with_reducible refine Dr.trans ?_ (by assumption))))
  have D3 := DT.trans E3
  have hT3 := Dr.blk E3 hT (by omega)
  have hO3 := Dr.blk E3 hOT (by omega)
  have hP3 := Dr.blk E3 hPT (by omega)
  have Q3 := QTT.dr E3 (by omega)
  have X3 := hx3.mono (lo' := w1.heap.size) (by (try simp only [World.size_drew, size_drewN]); omega) (Nat.le_refl _) (Nat.le_refl _)
  clear hd3 hx3 E3 QTT hT hOT hPT hkT hcT DT
  refine hK.out _ _ ?_ (fun hHeld => ?_)
  · (try dsimp only)
    exact ⟨hT3.cell 0, hT3.cell 1, hT3.cell 2, hT3.cell 3⟩
  clear hK K
  try simp only [Act.put, List.setIfInBounds_toArray, List.set_cons_zero, List.set_cons_succ]
  refine wpAnyH_ready (rs := [4]) (by kernel_rfl) (by simp) ?_
  refine (AllReadyH.cons (opN rfl) (fun K hK => ?_) AllReadyH.nil)
  have kO0 : w3.cell? ⟨w.heap.size, 0, none⟩ = some (.slice none 0 0) := hO3.cell 0
  have kO1 : w3.cell? ⟨w.heap.size, 1, none⟩ = some (.slice none 0 0) := hO3.cell 1
  have kO2 : w3.cell? ⟨w.heap.size, 2, none⟩ = some (.slice none 0 0) := hO3.cell 2
  have kO3 : w3.cell? ⟨w.heap.size, 3, none⟩ = some (.slice none 0 0) := hO3.cell 3
  have fO0 : w3.frozen? ⟨w.heap.size, 0, none⟩ = false := hO3.f1
  have fO1 : w3.frozen? ⟨w.heap.size, 1, none⟩ = false := hO3.f1
  have fO2 : w3.frozen? ⟨w.heap.size, 2, none⟩ = false := hO3.f1
  have fO3 : w3.frozen? ⟨w.heap.size, 3, none⟩ = false := hO3.f1
  go_simp
  obtain ⟨w4, hw4⟩ : ∃ w4, w4 = ((((w3.setCell ⟨w.heap.size, 0, none⟩ (.slice A1 (List.length t.1) c1)).setCell ⟨w.heap.size, 1, none⟩ (.slice A2 (List.length t.2.1) c2)).setCell ⟨w.heap.size, 2, none⟩ (.slice A3 (List.length t.2.2.1) c3)).setCell ⟨w.heap.size, 3, none⟩ (.slice A4 (List.length t.2.2.2) c4)) := ⟨_, rfl⟩
  rw [← hw4]
  have hO4 : Blk w4 w.heap.size 44 #[.slice A1 (List.length t.1) c1, .slice A2 (List.length t.2.1) c2, .slice A3 (List.length t.2.2.1) c3, .slice A4 (List.length t.2.2.2) c4] := by rw [hw4]; exact (Blk.set_ (Blk.set_ (Blk.set_ (Blk.set_ hO3 0 (.slice A1 (List.length t.1) c1)) 1 (.slice A2 (List.length t.2.1) c2)) 2 (.slice A3 (List.length t.2.2.1) c3)) 3 (.slice A4 (List.length t.2.2.2) c4))
  have D4 : Dr (w.heap.size + 1 + 1) w w4 := by rw [hw4]; exact (Dr.set (Dr.set (Dr.set (Dr.set D3 (p := ⟨w.heap.size, 0, none⟩) (.inr (Nat.le_refl _)) (.slice A1 (List.length t.1) c1)) (p := ⟨w.heap.size, 1, none⟩) (.inr (Nat.le_refl _)) (.slice A2 (List.length t.2.1) c2)) (p := ⟨w.heap.size, 2, none⟩) (.inr (Nat.le_refl _)) (.slice A3 (List.length t.2.2.1) c3)) (p := ⟨w.heap.size, 3, none⟩) (.inr (Nat.le_refl _)) (.slice A4 (List.length t.2.2.2) c4))
  have hP4 : Blk w4 (w.heap.size + 1) 46 #[.slice none 0 0, .slice none 0 0, .slice none 0 0, .int .i64 0, .int .i64 0] := by rw [hw4]; exact (Blk.far (Blk.far (Blk.far (Blk.far hP3 (p := ⟨w.heap.size, 0, none⟩) (by dsimp only; omega) (.slice A1 (List.length t.1) c1)) (p := ⟨w.heap.size, 1, none⟩) (by dsimp only; omega) (.slice A2 (List.length t.2.1) c2)) (p := ⟨w.heap.size, 2, none⟩) (by dsimp only; omega) (.slice A3 (List.length t.2.2.1) c3)) (p := ⟨w.heap.size, 3, none⟩) (by dsimp only; omega) (.slice A4 (List.length t.2.2.2) c4))
  have hT4 : Blk w4 w2.heap.size 44 #[.slice A1 (List.length t.1) c1, .slice A2 (List.length t.2.1) c2, .slice A3 (List.length t.2.2.1) c3, .slice A4 (List.length t.2.2.2) c4] := by rw [hw4]; exact (Blk.far (Blk.far (Blk.far (Blk.far hT3 (p := ⟨w.heap.size, 0, none⟩) (by dsimp only; omega) (.slice A1 (List.length t.1) c1)) (p := ⟨w.heap.size, 1, none⟩) (by dsimp only; omega) (.slice A2 (List.length t.2.1) c2)) (p := ⟨w.heap.size, 2, none⟩) (by dsimp only; omega) (.slice A3 (List.length t.2.2.1) c3)) (p := ⟨w.heap.size, 3, none⟩) (by dsimp only; omega) (.slice A4 (List.length t.2.2.2) c4))
  have Q4 : RdI tTrustPolicy w1.heap.size w2.heap.size w4 [.slice A1 (List.length t.1) c1, .slice A2 (List.length t.2.1) c2, .slice A3 (List.length t.2.2.1) c3, .slice A4 (List.length t.2.2.2) c4] t := by rw [hw4]; exact (RdI.set (RdI.set (RdI.set (RdI.set Q3 (p := ⟨w.heap.size, 0, none⟩) (.inl (by dsimp only; omega)) (.slice A1 (List.length t.1) c1)) (p := ⟨w.heap.size, 1, none⟩) (.inl (by dsimp only; omega)) (.slice A2 (List.length t.2.1) c2)) (p := ⟨w.heap.size, 2, none⟩) (.inl (by dsimp only; omega)) (.slice A3 (List.length t.2.2.1) c3)) (p := ⟨w.heap.size, 3, none⟩) (.inl (by dsimp only; omega)) (.slice A4 (List.length t.2.2.2) c4))
  have X4 : RdI tData w1.heap.size w3.heap.size w4 [.slice B0 (List.length x.1) d0, .slice B1 (List.length x.2.1) d1, .slice B2 (List.length x.2.2.1) d2, .int .i64 x.2.2.2.1, .int .i64 x.2.2.2.2] x := by rw [hw4]; exact (RdI.set (RdI.set (RdI.set (RdI.set X3 (p := ⟨w.heap.size, 0, none⟩) (.inl (by dsimp only; omega)) (.slice A1 (List.length t.1) c1)) (p := ⟨w.heap.size, 1, none⟩) (.inl (by dsimp only; omega)) (.slice A2 (List.length t.2.1) c2)) (p := ⟨w.heap.size, 2, none⟩) (.inl (by dsimp only; omega)) (.slice A3 (List.length t.2.2.1) c3)) (p := ⟨w.heap.size, 3, none⟩) (.inl (by dsimp only; omega)) (.slice A4 (List.length t.2.2.2) c4))
  clear hO3 hP3 hT3 Q3 X3 D3 hw4
  clear kO0 fO0
  clear kO1 fO1
  clear kO2 fO2
  clear kO3 fO3
  refine hK.out _ _ ?_ (fun hHeld => ?_)
  · (try dsimp only)
    exact ⟨hT4.cell 0, hT4.cell 1, hT4.cell 2, hT4.cell 3⟩
  clear hK K
  try simp only [Act.put, List.setIfInBounds_toArray, List.set_cons_zero, List.set_cons_succ]
  refine wpAnyH_ready (rs := [5]) (by kernel_rfl) (by simp) ?_
  refine (AllReadyH.cons (opN rfl) (fun K hK => ?_) AllReadyH.nil)
  have kP0 : w4.cell? ⟨w.heap.size + 1, 0, none⟩ = some (.slice none 0 0) := hP4.cell 0
  have kP1 : w4.cell? ⟨w.heap.size + 1, 1, none⟩ = some (.slice none 0 0) := hP4.cell 1
  have kP2 : w4.cell? ⟨w.heap.size + 1, 2, none⟩ = some (.slice none 0 0) := hP4.cell 2
  have kP3 : w4.cell? ⟨w.heap.size + 1, 3, none⟩ = some (.int .i64 0) := hP4.cell 3
  have kP4 : w4.cell? ⟨w.heap.size + 1, 4, none⟩ = some (.int .i64 0) := hP4.cell 4
  have fP0 : w4.frozen? ⟨w.heap.size + 1, 0, none⟩ = false := hP4.f1
  have fP1 : w4.frozen? ⟨w.heap.size + 1, 1, none⟩ = false := hP4.f1
  have fP2 : w4.frozen? ⟨w.heap.size + 1, 2, none⟩ = false := hP4.f1
  have fP3 : w4.frozen? ⟨w.heap.size + 1, 3, none⟩ = false := hP4.f1
  have fP4 : w4.frozen? ⟨w.heap.size + 1, 4, none⟩ = false := hP4.f1
  go_simp
  obtain ⟨w5, hw5⟩ : ∃ w5, w5 = (((((w4.setCell ⟨w.heap.size + 1, 0, none⟩ (.slice B0 (List.length x.1) d0)).setCell ⟨w.heap.size + 1, 1, none⟩ (.slice B1 (List.length x.2.1) d1)).setCell ⟨w.heap.size + 1, 2, none⟩ (.slice B2 (List.length x.2.2.1) d2)).setCell ⟨w.heap.size + 1, 3, none⟩ (.int .i64 x.2.2.2.1)).setCell ⟨w.heap.size + 1, 4, none⟩ (.int .i64 x.2.2.2.2)) := ⟨_, rfl⟩
  rw [← hw5]
  have hP5 : Blk w5 (w.heap.size + 1) 46 #[.slice B0 (List.length x.1) d0, .slice B1 (List.length x.2.1) d1, .slice B2 (List.length x.2.2.1) d2, .int .i64 x.2.2.2.1, .int .i64 x.2.2.2.2] := by rw [hw5]; exact (Blk.set_ (Blk.set_ (Blk.set_ (Blk.set_ (Blk.set_ hP4 0 (.slice B0 (List.length x.1) d0)) 1 (.slice B1 (List.length x.2.1) d1)) 2 (.slice B2 (List.length x.2.2.1) d2)) 3 (.int .i64 x.2.2.2.1)) 4 (.int .i64 x.2.2.2.2))
  have D5 : Dr (w.heap.size + 1 + 1) w w5 := by rw [hw5]; exact (Dr.set (Dr.set (Dr.set (Dr.set (Dr.set D4 (p := ⟨w.heap.size + 1, 0, none⟩) (.inr (by dsimp only; omega)) (.slice B0 (List.length x.1) d0)) (p := ⟨w.heap.size + 1, 1, none⟩) (.inr (by dsimp only; omega)) (.slice B1 (List.length x.2.1) d1)) (p := ⟨w.heap.size + 1, 2, none⟩) (.inr (by dsimp only; omega)) (.slice B2 (List.length x.2.2.1) d2)) (p := ⟨w.heap.size + 1, 3, none⟩) (.inr (by dsimp only; omega)) (.int .i64 x.2.2.2.1)) (p := ⟨w.heap.size + 1, 4, none⟩) (.inr (by dsimp only; omega)) (.int .i64 x.2.2.2.2))
  have hO5 : Blk w5 w.heap.size 44 #[.slice A1 (List.length t.1) c1, .slice A2 (List.length t.2.1) c2, .slice A3 (List.length t.2.2.1) c3, .slice A4 (List.length t.2.2.2) c4] := by rw [hw5]; exact (Blk.far (Blk.far (Blk.far (Blk.far (Blk.far hO4 (p := ⟨w.heap.size + 1, 0, none⟩) (by dsimp only; omega) (.slice B0 (List.length x.1) d0)) (p := ⟨w.heap.size + 1, 1, none⟩) (by dsimp only; omega) (.slice B1 (List.length x.2.1) d1)) (p := ⟨w.heap.size + 1, 2, none⟩) (by dsimp only; omega) (.slice B2 (List.length x.2.2.1) d2)) (p := ⟨w.heap.size + 1, 3, none⟩) (by dsimp only; omega) (.int .i64 x.2.2.2.1)) (p := ⟨w.heap.size + 1, 4, none⟩) (by dsimp only; omega) (.int .i64 x.2.2.2.2))
  have hT5 : Blk w5 w2.heap.size 44 #[.slice A1 (List.length t.1) c1, .slice A2 (List.length t.2.1) c2, .slice A3 (List.length t.2.2.1) c3, .slice A4 (List.length t.2.2.2) c4] := by rw [hw5]; exact (Blk.far (Blk.far (Blk.far (Blk.far (Blk.far hT4 (p := ⟨w.heap.size + 1, 0, none⟩) (by dsimp only; omega) (.slice B0 (List.length x.1) d0)) (p := ⟨w.heap.size + 1, 1, none⟩) (by dsimp only; omega) (.slice B1 (List.length x.2.1) d1)) (p := ⟨w.heap.size + 1, 2, none⟩) (by dsimp only; omega) (.slice B2 (List.length x.2.2.1) d2)) (p := ⟨w.heap.size + 1, 3, none⟩) (by dsimp only; omega) (.int .i64 x.2.2.2.1)) (p := ⟨w.heap.size + 1, 4, none⟩) (by dsimp only; omega) (.int .i64 x.2.2.2.2))
  have Q5 : RdI tTrustPolicy w1.heap.size w2.heap.size w5 [.slice A1 (List.length t.1) c1, .slice A2 (List.length t.2.1) c2, .slice A3 (List.length t.2.2.1) c3, .slice A4 (List.length t.2.2.2) c4] t := by rw [hw5]; exact (RdI.set (RdI.set (RdI.set (RdI.set (RdI.set Q4 (p := ⟨w.heap.size + 1, 0, none⟩) (.inl (by dsimp only; omega)) (.slice B0 (List.length x.1) d0)) (p := ⟨w.heap.size + 1, 1, none⟩) (.inl (by dsimp only; omega)) (.slice B1 (List.length x.2.1) d1)) (p := ⟨w.heap.size + 1, 2, none⟩) (.inl (by dsimp only; omega)) (.slice B2 (List.length x.2.2.1) d2)) (p := ⟨w.heap.size + 1, 3, none⟩) (.inl (by dsimp only; omega)) (.int .i64 x.2.2.2.1)) (p := ⟨w.heap.size + 1, 4, none⟩) (.inl (by dsimp only; omega)) (.int .i64 x.2.2.2.2))
  have X5 : RdI tData w1.heap.size w3.heap.size w5 [.slice B0 (List.length x.1) d0, .slice B1 (List.length x.2.1) d1, .slice B2 (List.length x.2.2.1) d2, .int .i64 x.2.2.2.1, .int .i64 x.2.2.2.2] x := by rw [hw5]; exact (RdI.set (RdI.set (RdI.set (RdI.set (RdI.set X4 (p := ⟨w.heap.size + 1, 0, none⟩) (.inl (by dsimp only; omega)) (.slice B0 (List.length x.1) d0)) (p := ⟨w.heap.size + 1, 1, none⟩) (.inl (by dsimp only; omega)) (.slice B1 (List.length x.2.1) d1)) (p := ⟨w.heap.size + 1, 2, none⟩) (.inl (by dsimp only; omega)) (.slice B2 (List.length x.2.2.1) d2)) (p := ⟨w.heap.size + 1, 3, none⟩) (.inl (by dsimp only; omega)) (.int .i64 x.2.2.2.1)) (p := ⟨w.heap.size + 1, 4, none⟩) (.inl (by dsimp only; omega)) (.int .i64 x.2.2.2.2))
  clear hO4 hP4 hT4 Q4 X4 D4 hw5
  clear kP0 fP0
  clear kP1 fP1
  clear kP2 fP2
  clear kP3 fP3
  clear kP4 fP4
  refine hK.out _ _ ?_ (fun hHeld => ?_)
  · (try dsimp only)
    exact ⟨hT5.cell 0, hT5.cell 1, hT5.cell 2, hT5.cell 3⟩
  clear hK K
  try simp only [Act.put, List.setIfInBounds_toArray, List.set_cons_zero, List.set_cons_succ]
  refine wpAnyH_done (by kernel_rfl) ?_ _
  refine NoPanic.normal ?_
  have jO0 : w5.cell? ⟨w.heap.size, 0, none⟩ = some (.slice A1 (List.length t.1) c1) := hO5.cell 0
  have jO1 : w5.cell? ⟨w.heap.size, 1, none⟩ = some (.slice A2 (List.length t.2.1) c2) := hO5.cell 1
  have jO2 : w5.cell? ⟨w.heap.size, 2, none⟩ = some (.slice A3 (List.length t.2.2.1) c3) := hO5.cell 2
  have jO3 : w5.cell? ⟨w.heap.size, 3, none⟩ = some (.slice A4 (List.length t.2.2.2) c4) := hO5.cell 3
  have jP0 : w5.cell? ⟨w.heap.size + 1, 0, none⟩ = some (.slice B0 (List.length x.1) d0) := hP5.cell 0
  have jP1 : w5.cell? ⟨w.heap.size + 1, 1, none⟩ = some (.slice B1 (List.length x.2.1) d1) := hP5.cell 1
  have jP2 : w5.cell? ⟨w.heap.size + 1, 2, none⟩ = some (.slice B2 (List.length x.2.2.1) d2) := hP5.cell 2
  have jP3 : w5.cell? ⟨w.heap.size + 1, 3, none⟩ = some (.int .i64 x.2.2.2.1) := hP5.cell 3
  have jP4 : w5.cell? ⟨w.heap.size + 1, 4, none⟩ = some (.int .i64 x.2.2.2.2) := hP5.cell 4
  go_wp2
  refine bodyPost_ret (v := .tuple #[.agg #[.slice A1 (List.length t.1) c1, .slice A2 (List.length t.2.1) c2, .slice A3 (List.length t.2.2.1) c3, .slice A4 (List.length t.2.2.2) c4], .agg #[.slice B0 (List.length x.1) d0, .slice B1 (List.length x.2.1) d1, .slice B2 (List.length x.2.2.1) d2, .int .i64 x.2.2.2.1, .int .i64 x.2.2.2.2]]) (by simp [results, Try.results14, go_sem, jO0, jO1, jO2, jO3, jP0, jP1, jP2, jP3, jP4]) rfl ?_
  exact ⟨_, t, _, x, rfl, Q5.rd, X5.rd, hok, hmk, Dr.below D5 (by omega) (Nat.le_refl _)⟩
end Go.Proofs.Ytldgbnlcnlfmeaa

/- Papers that have expired, and forgers: the plain laws. No program in sight. -/
namespace Go.Proofs.Ytldgbnlcnlfmeaa
open Go.RowKit
set_option linter.unusedVariables false
set_option linter.unusedSimpArgs false

theorem ixf_congr {α : Type} {p q : α → Bool} {l : List α} (h : ∀ x ∈ l, p x = q x) : ixf p l = ixf q l := by
  have : l.findIdx? p = l.findIdx? q := by
    induction l with
    | nil => rfl
    | cons a l ih => rw [List.findIdx?_cons, List.findIdx?_cons, h a (List.mem_cons_self ..), ih (fun x hx => h x (List.mem_cons_of_mem _ hx))]
  unfold ixf
  rw [this]
section
variable {t : tTrustPolicy.D} {a b : Int} {x : Ty.D tData}
theorem fc_congr (n : List (List UInt8)) (h : ∀ x ∈ t.2.2.2, f_FreshAt x a = f_FreshAt x b) : f_FindCertificate t n a = f_FindCertificate t n b := by
  unfold f_FindCertificate
  split
  · rfl
  · exact ixf_congr (fun x hx => by unfold certOk; rw [h x hx])
theorem tcGo_congr (h : ∀ x ∈ t.2.2.2, f_FreshAt x a = f_FreshAt x b) : ∀ (n : Nat) (x : Ty.D tData) (c : List (List (List UInt8))), tcGo t a n x c = tcGo t b n x c
  | 0, _, _ => rfl
  | n + 1, x, c => by
    have e : certAt t x.2.2.1 a = certAt t x.2.2.1 b := by unfold certAt; rw [fc_congr _ h]
    unfold tcGo
    rw [e]
    split
    · rfl
    · split
      · rfl
      · split
        · rfl
        · exact tcGo_congr h n _ _
theorem it_congr (h : ∀ x ∈ t.2.2.2, f_FreshAt x a = f_FreshAt x b) : f_IsTrusted t x a = f_IsTrusted t x b := by
  unfold f_IsTrusted f1_TrustChain; rw [tcGo_congr h]
theorem fresh_old (ht : okTrust t) (ha : 5000 < a) : ∀ x ∈ t.2.2.2, f_FreshAt x a = false := fun x hx => by
  unfold f_FreshAt; rw [(okCert_valid (ht.2.2.2.2 x hx)).2]; exact decide_eq_false (by omega)
theorem fresh_new (ht : okTrust t) (ha : a ≤ 5000) : ∀ x ∈ t.2.2.2, f_FreshAt x a = true := fun x hx => by
  unfold f_FreshAt; rw [(okCert_valid (ht.2.2.2.2 x hx)).2]; exact decide_eq_true ha
theorem old_find (ht : okTrust t) (ha : 5000 < a) (n : List (List UInt8)) : f_FindCertificate t n a = -1 := by
  unfold f_FindCertificate
  split
  · rfl
  · exact ixf_miss _ _ (List.any_eq_false.2 (fun x hx => by unfold certOk; rw [fresh_old ht ha x hx]; simp))
theorem old_anchor (ht : okTrust t) (ha : 5000 < a) (h : f_IsTrusted t x a = true) : f_IsAnchor t x.2.2.1 = true := by
  cases q : f_IsAnchor t x.2.2.1
  · exfalso
    unfold f_IsTrusted f1_TrustChain at h
    rw [tcGo_miss q (old_find ht ha _)] at h
    simp at h
  · rfl
theorem old_step {late m : Int} (ht : okTrust t) (hl : 5000 < late) (h : f_IsTrusted t x late = false) (h5 : f_IsTrusted t x m = true) : f_IsTrusted t x 5000 = true := by
  by_cases hm5 : m ≤ 5000
  · rw [it_congr (b := m) (fun x hx => (fresh_new ht (by omega) x hx).trans (fresh_new ht hm5 x hx).symm)]; exact h5
  · rw [it_congr (b := late) (fun x hx => (fresh_old ht (by omega) x hx).trans (fresh_old ht hl x hx).symm), h] at h5; cases h5
theorem trusted_ok (h : f_IsTrusted t x a = true) : f_VerifySignature t.1 x = true ∧ f_Allowed t.2.1 x.1 x.2.2.1 = true ∧ f_ValidData x = true := by
  unfold f_IsTrusted f1_TrustChain at h
  simp only [Bool.and_eq_true] at h
  cases q : tcOk t x
  · rw [tcGo_bad q] at h; simp at h
  · unfold tcOk at q; simp only [Bool.and_eq_true] at q; exact ⟨q.1, q.2, h.2⟩
theorem not_trusted (h : tcOk t x = false) : f_IsTrusted t x a = false := by unfold f_IsTrusted f1_TrustChain; rw [tcGo_bad h]; rfl
end
theorem inv_step {e q : Int} (h : 1000003 * e = 2147483647 * q) : e = 2147483647 * (1523789695 * q - 709572 * e) := by
  have h2 : 1523789695 * (1000003 * e) = 1523789695 * (2147483647 * q) := by rw [h]
  omega
theorem dstep_inj {d d' c : Int} (h0 : 0 ≤ d ∧ d < 2147483647) (h1 : 0 ≤ d' ∧ d' < 2147483647) (hc : 0 ≤ c) (h : (d * 1000003 + c + 13).tmod 2147483647 = (d' * 1000003 + c + 13).tmod 2147483647) : d = d' := by
  rw [Int.tmod_eq_emod_of_nonneg (by omega), Int.tmod_eq_emod_of_nonneg (by omega)] at h
  have e1 := Int.emod_add_mul_ediv (d * 1000003 + c + 13) 2147483647
  have e2 := Int.emod_add_mul_ediv (d' * 1000003 + c + 13) 2147483647
  rw [h] at e1
  generalize (d' * 1000003 + c + 13) % 2147483647 = r at e1 e2
  generalize (d * 1000003 + c + 13) / 2147483647 = q1 at e1
  generalize (d' * 1000003 + c + 13) / 2147483647 = q2 at e2
  have h4 : 1000003 * (d - d') = 2147483647 * (q1 - q2) := by
    clear h h0 h1 hc
    rw [Int.mul_sub, Int.mul_sub]
    omega
  have h3 := inv_step h4
  clear h e1 e2 h4
  generalize (1523789695 * (q1 - q2) - 709572 * (d - d')) = m at h3
  omega
theorem dstep_inj2 {D u u' : Int} (hD : 0 ≤ D) (h0 : 0 ≤ u ∧ u < 2147483647) (h1 : 0 ≤ u' ∧ u' < 2147483647) (h : (D * 1000003 + u + 13).tmod 2147483647 = (D * 1000003 + u' + 13).tmod 2147483647) : u = u' := by
  rw [Int.tmod_eq_emod_of_nonneg (by omega), Int.tmod_eq_emod_of_nonneg (by omega)] at h
  omega
theorem modP_small {n : Int} (h : 0 ≤ n ∧ n < 2147483647) : modP n = n := by
  unfold modP
  rw [Int.tmod_eq_emod_of_nonneg h.1, Int.tmod_eq_emod_of_nonneg (by omega)]
  omega
theorem modP_nonneg (n : Int) : 0 ≤ modP n := by
  unfold modP
  have := tmodP_bd n
  rw [Int.tmod_eq_emod_of_nonneg (by omega)]
  omega
theorem mac_inj {s u u' : Int} {l : List Int} (h0 : 0 ≤ u ∧ u < 2147483647) (h1 : 0 ≤ u' ∧ u' < 2147483647) (h : mac s (l ++ [u]) = mac s (l ++ [u'])) : u = u' := by
  have e : ∀ v, mac s (l ++ [v]) = (digest (s :: l ++ [v]) * 1000003 + modP s + 13).tmod 2147483647 := fun v => by
    unfold mac digest; simp only [List.cons_append, List.foldl_cons, List.foldl_append, List.foldl_nil]
  have e2 : ∀ v, digest (s :: l ++ [v]) = (digest (s :: l) * 1000003 + modP v + 13).tmod 2147483647 := fun v => by
    unfold digest; simp only [List.cons_append, List.foldl_cons, List.foldl_append, List.foldl_nil]
  rw [e, e] at h
  have h2 := dstep_inj (digest_le _) (digest_le _) (modP_nonneg s) h
  rw [e2, e2, modP_small h0, modP_small h1] at h2
  exact dstep_inj2 (digest_le _).1 h0 h1 h2
theorem inR_iff_ {x a b : Int} (h : inR x a b = true) : a ≤ x ∧ x ≤ b := by unfold inR at h; simpa using h
def withUntil (x : Ty.D tData) (u : Int) : Ty.D tData := (x.1, x.2.1, x.2.2.1, u, x.2.2.2.2)
theorem forge_until {l : List (Ty.D tKey)} {x : Ty.D tData} {k : Int} (hk : 1 ≤ k ∧ k ≤ 1000) (hv : f_ValidData x = true) (h : f_VerifySignature l x = true) : f_VerifySignature l (withUntil x (x.2.2.2.1 + k)) = false := by
  cases q : f_VerifySignature l (withUntil x (x.2.2.2.1 + k))
  · rfl
  · exfalso
    unfold f_VerifySignature f_VerifyData at h q
    simp only [Bool.and_eq_true, decide_eq_true_eq] at h q
    unfold f_ValidData at hv
    simp only [Bool.and_eq_true] at hv
    have hu := inR_iff_ hv.2.2.2.2.1
    have h2 := h.2.symm.trans q.2
    have h3 : mac (f_SecretOf l x.2.2.1) ([bti (f_AppendName [] x.1), bti x.2.1, bti (f_AppendName [] x.2.2.1)].flatten ++ [x.2.2.2.1]) = mac (f_SecretOf l x.2.2.1) ([bti (f_AppendName [] x.1), bti x.2.1, bti (f_AppendName [] x.2.2.1)].flatten ++ [x.2.2.2.1 + k]) := h2
    have := mac_inj (by omega) (by omega) h3
    omega
theorem forge_sig {l : List (Ty.D tKey)} {x : Ty.D tData} {k : Int} (hk : 1 ≤ k ∧ k ≤ 1000) (hv : f_ValidData x = true) (h : f_VerifySignature l x = true) : f_VerifySignature l (signed x ((x.2.2.2.2 + k).tmod 2147483647)) = false := by
  cases q : f_VerifySignature l (signed x ((x.2.2.2.2 + k).tmod 2147483647))
  · rfl
  · exfalso
    unfold f_VerifySignature f_VerifyData at h q
    simp only [Bool.and_eq_true, decide_eq_true_eq] at h q
    unfold f_ValidData at hv
    simp only [Bool.and_eq_true] at hv
    have hu := inR_iff_ hv.2.2.2.2.2
    have h2 : (x.2.2.2.2 + k).tmod 2147483647 = x.2.2.2.2 := q.2.trans h.2.symm
    rw [Int.tmod_eq_emod_of_nonneg (by omega)] at h2
    omega
theorem forge_bad {t : tTrustPolicy.D} {n : List (List UInt8)} (ht : okTrust t) (hn : n ∈ six) : f_Allowed t.2.1 n nm_badK = false := by
  rw [ht.2.1]
  unfold six at hn; simp at hn
  rcases hn with rfl | rfl | rfl | rfl | rfl | rfl <;> decide
theorem forge_key {t : tTrustPolicy.D} {x : Ty.D tData} {a b : Int} (ht : okTrust t) (hx : okMade x) (h : f_IsTrusted t x a = true) (h1 : f1_SignWithKey t.1 nm_badK x.1 x.2.1 x.2.2.2.1 = true) : f_IsTrusted t (f0_SignWithKey t.1 nm_badK x.1 x.2.1 x.2.2.2.1) b = false := by
  have hv := (trusted_ok h).2.2
  unfold f_ValidData at hv
  simp only [Bool.and_eq_true, decide_eq_true_eq] at hv
  have hn : x.1 ∈ six := by
    rcases hx.1 with e | e
    · have := hv.2.1; rw [e] at this; exact absurd this (by decide)
    · exact e
  refine not_trusted ?_
  rw [swk_yes h1]
  unfold tcOk
  have : f_Allowed t.2.1 (swkX t.1 nm_badK x.1 x.2.1 x.2.2.2.1).1 (swkX t.1 nm_badK x.1 x.2.1 x.2.2.2.1).2.2.1 = false := forge_bad ht hn
  rw [this, Bool.and_false]
theorem trust_bulk {t : tTrustPolicy.D} (ht : okTrust t) : Ty.bulk tTrustPolicy t ≤ 2000 := by
  obtain ⟨k, r, n, c⟩ := t
  obtain ⟨rfl, rfl, rfl, h4, h5⟩ := ht
  have e1 : Ty.bulk (.sl tKey) K4 ≤ 300 := by decide
  have e2 : Ty.bulk (.sl tRule) R2 ≤ 300 := by decide
  have e3 : Ty.bulk (.sl (.sl .str)) [nm_kA] ≤ 300 := by decide
  have e4 : Ty.bulk (.sl tData) c ≤ 338 := by
    match c, h4, h5 with
    | [], _, _ => decide
    | [x], _, h5 =>
      have h1 := bulk_one (e := tData) x
      have h2 := data_bulk (okCert_valid (h5 x (by simp))).1
      omega
    | [x, y], _, h5 =>
      have h1 := bulk_one (e := tData) x
      have h1' := bulk_one (e := tData) y
      have h0 := bulk_app (e := tData) [x] [y]
      have h2 := data_bulk (okCert_valid (h5 x (by simp))).1
      have h3 := data_bulk (okCert_valid (h5 y (by simp))).1
      simp only [List.cons_append, List.nil_append] at h0
      omega
    | _ :: _ :: _ :: _, h4, _ => simp at h4
  show Ty.bulk (.sl tKey) K4 + (Ty.bulk (.sl tRule) R2 + (Ty.bulk (.sl (.sl .str)) [nm_kA] + Ty.bulk (.sl tData) c)) ≤ 2000
  omega
end Go.Proofs.Ytldgbnlcnlfmeaa

/- The laws' own small functions: a byte of the code, or what stands for it; the code's size. -/
namespace Go.Proofs.Ytldgbnlcnlfmeaa
open Go.RowKit
set_option linter.unusedVariables false
set_option linter.unusedSimpArgs false

set_option maxHeartbeats 1000000 in
theorem C_laws_bigG (w : World) (A : Option Addr) (n c : Nat) : Calls Try.prog 7 #[.slice A n c] w (RetBP w (decide ((n : Int) > 1048576))) := by
  go_enter Try.func7, Try.ntmps7
  go_wp2
  go_ret
  first | exact ⟨rfl, rfl⟩ | exact ⟨rfl, Below.refl _ _⟩ | trace_state
set_option maxHeartbeats 1000000 in
theorem C_laws_at (w : World) (v : Value) (x : List UInt8) (i : Nat) (h : (Ty.sl .byte).rd w [v] x) (hn : x.length ≤ 1048576) (hi : i ≤ 100) :
    Calls Try.prog 15 #[v, .int .i64 i] w (fun e w' => w' = w ∧ ∃ k : Int, e = .returned (.int .i64 k) ∧ 0 ≤ k ∧ k ≤ 255) := by
  obtain ⟨A, c, rfl, hc, hm, hn2⟩ := Ty.rd_sl h
  by_cases hlt : i < x.length
  · obtain ⟨b1, o1, rfl, e1⟩ := Ty.rd_byte_at h hlt
    have hu := x[i].toNat_lt
    go_enter Try.func15, Try.ntmps15
    go_wp2
    go_ret
    exact ⟨rfl, _, rfl, by omega, by omega⟩
  · go_enter Try.func15, Try.ntmps15
    go_wp2
    go_ret
    exact ⟨rfl, _, rfl, by omega, by omega⟩
end Go.Proofs.Ytldgbnlcnlfmeaa

/- The law FnOldPapers, walked out of the contracts. -/
namespace Go.Proofs.Ytldgbnlcnlfmeaa
open Go.RowKit
set_option linter.unusedVariables false
set_option linter.unusedSimpArgs false

set_option maxRecDepth 100000 in
set_option maxHeartbeats 4000000 in
theorem L_FnOldPapers (w : World) (v0 : Value) (x0 : Ty.D (.sl .byte)) (h0 : Ty.rd w (.sl .byte) [v0] x0) :
    Calls Try.prog 4 #[v0] w (RetB w true) := by
  obtain ⟨A0, c0, rfl, hc0, hm0, hn0⟩ := Ty.rd_sl h0
  go_enter Try.func4, Try.ntmps4
  go_wp2_with fail
  refine (C_laws_bigG _ _ _ _).mono ?_
  rintro e w1 ⟨rfl, hw1⟩
  obtain rfl : w = w1 := hw1.symm
  by_cases hbig : (x0.length : Int) > 1048576
  · go_wp2
    go_ret
    exact ⟨rfl, (by repeat' (first | (with_reducible exact Below.refl _ _) | (with_reducible assumption) | (with_reducible refine bel_set ?_ (by (try dsimp only); omega) _) | (with_reducible refine bel_alloc ?_ _) | (with_reducible refine bel_drewN ?_ _) | (with_reducible refine bel_drew ?_)))⟩
  go_wp2_with fail
  refine (C_spec_DrawMade _ _ x0 (Ty.rd_below (by repeat' (first | (with_reducible exact Below.refl _ _) | (with_reducible assumption) | (with_reducible refine bel_set ?_ (by (try dsimp only); omega) _) | (with_reducible refine bel_alloc ?_ _) | (with_reducible refine bel_drewN ?_ _) | (with_reducible refine bel_drew ?_))) h0)).mono ?_
  rintro e w1 ⟨cs1, t, cs2, x, rfl, ht1, hx1, hok, hmk, hb1⟩
  have z1 := hb1.size
  have hbt : Ty.bulk tTrustPolicy t ≤ 1048576 := Nat.le_trans (trust_bulk hok) (by decide)
  have hbx : Ty.bulk tData x ≤ 1048576 := Nat.le_trans hmk.2.1 (by decide)
  have hbk := (data_bulk_key hbx).2
  obtain ⟨At0, ct0, At1, ct1, At2, ct2, At3, ct3, rfl, -, -, -, -⟩ := rd_TrustPolicy ht1
  obtain ⟨Ax0, cx0, Ax1, cx1, Ax2, cx2, rfl, -, -, hxk, -, -⟩ := rd_Data hx1
  go_wp2_with fail
  obtain ⟨WB, hWB⟩ : ∃ WB, WB = (w1.alloc (.cells #[.slice At0 (List.length t.1) ct0, .slice At1 (List.length t.2.1) ct1, .slice At2 (List.length t.2.2.1) ct2, .slice At3 (List.length t.2.2.2) ct3] 44)).alloc (.cells #[.slice Ax0 (List.length x.1) cx0, .slice Ax1 (List.length x.2.1) cx1, .slice Ax2 (List.length x.2.2.1) cx2, .int .i64 x.2.2.2.1, .int .i64 x.2.2.2.2] 46) := ⟨_, rfl⟩
  have hbB : Below w1.heap.size w1 WB := by rw [hWB]; exact (by repeat' (first | (with_reducible exact Below.refl _ _) | (with_reducible assumption) | (with_reducible refine bel_set ?_ (by (try dsimp only); omega) _) | (with_reducible refine bel_alloc ?_ _) | (with_reducible refine bel_drewN ?_ _) | (with_reducible refine bel_drew ?_)))
  have hT : Blk WB w1.heap.size 44 #[.slice At0 (List.length t.1) ct0, .slice At1 (List.length t.2.1) ct1, .slice At2 (List.length t.2.2.1) ct2, .slice At3 (List.length t.2.2.2) ct3] := by rw [hWB]; exact (Blk.new _ _ _).alloc _
  have hX : Blk WB (w1.heap.size + 1) 46 #[.slice Ax0 (List.length x.1) cx0, .slice Ax1 (List.length x.2.1) cx1, .slice Ax2 (List.length x.2.2.1) cx2, .int .i64 x.2.2.2.1, .int .i64 x.2.2.2.2] := by rw [hWB]; have := Blk.new (w1.alloc (.cells #[.slice At0 (List.length t.1) ct0, .slice At1 (List.length t.2.1) ct1, .slice At2 (List.length t.2.2.1) ct2, .slice At3 (List.length t.2.2.2) ct3] 44)) 46 #[.slice Ax0 (List.length x.1) cx0, .slice Ax1 (List.length x.2.1) cx1, .slice Ax2 (List.length x.2.2.1) cx2, .int .i64 x.2.2.2.1, .int .i64 x.2.2.2.2]; rw [World.size_alloc] at this; exact this
  have hwB : Below w.heap.size w WB := bel_trans (bel_trans (by repeat' (first | (with_reducible exact Below.refl _ _) | (with_reducible assumption) | (with_reducible refine bel_set ?_ (by (try dsimp only); omega) _) | (with_reducible refine bel_alloc ?_ _) | (with_reducible refine bel_drewN ?_ _) | (with_reducible refine bel_drew ?_))) hb1) hbB
  have zT := hT.lt
  have zX := hX.lt
  have ht := Ty.rd_below hbB ht1
  have hx := Ty.rd_below hbB hx1
  have hk := Ty.rd_below hbB hxk
  have h0B := Ty.rd_below hwB h0
  rw [← hWB]
  clear hWB ht1 hx1 hxk hb1 hbB
  have HC : Hid (∀ V, Below WB.heap.size WB V → Blk V w1.heap.size 44 #[.slice At0 (List.length t.1) ct0, .slice At1 (List.length t.2.1) ct1, .slice At2 (List.length t.2.2.1) ct2, .slice At3 (List.length t.2.2.2) ct3] ∧ Blk V (w1.heap.size + 1) 46 #[.slice Ax0 (List.length x.1) cx0, .slice Ax1 (List.length x.2.1) cx1, .slice Ax2 (List.length x.2.2.1) cx2, .int .i64 x.2.2.2.1, .int .i64 x.2.2.2.2]) := fun V hV => ⟨hT.below hV zT, hX.below hV zX⟩
  refine (C_laws_at _ _ x0 2 h0B (by omega) (by decide)).mono ?_
  rintro e w2 ⟨hw2, k, rfl, k0, k1⟩
  obtain rfl : WB = w2 := hw2.symm
  have il : -9223372036854775808 ≤ 5001 + k ∧ 5001 + k ≤ 9223372036854775807 := by omega
  have hl : (5000 : Int) < 5001 + k := by omega
  have jT0 : WB.cell? ⟨w1.heap.size, 0, none⟩ = some (.slice At0 (List.length t.1) ct0) := hT.cell 0
  have jT1 : WB.cell? ⟨w1.heap.size, 1, none⟩ = some (.slice At1 (List.length t.2.1) ct1) := hT.cell 1
  have jT2 : WB.cell? ⟨w1.heap.size, 2, none⟩ = some (.slice At2 (List.length t.2.2.1) ct2) := hT.cell 2
  have jT3 : WB.cell? ⟨w1.heap.size, 3, none⟩ = some (.slice At3 (List.length t.2.2.2) ct3) := hT.cell 3
  have jX0 : WB.cell? ⟨w1.heap.size + 1, 0, none⟩ = some (.slice Ax0 (List.length x.1) cx0) := hX.cell 0
  have jX1 : WB.cell? ⟨w1.heap.size + 1, 1, none⟩ = some (.slice Ax1 (List.length x.2.1) cx1) := hX.cell 1
  have jX2 : WB.cell? ⟨w1.heap.size + 1, 2, none⟩ = some (.slice Ax2 (List.length x.2.2.1) cx2) := hX.cell 2
  have jX3 : WB.cell? ⟨w1.heap.size + 1, 3, none⟩ = some (.int .i64 x.2.2.2.1) := hX.cell 3
  have jX4 : WB.cell? ⟨w1.heap.size + 1, 4, none⟩ = some (.int .i64 x.2.2.2.2) := hX.cell 4
  go_wp2_with fail
  refine (C_impl_IsTrusted _ _ t _ x (5001 + k) ht hx hbt hbx il).mono ?_
  rintro e w3 ⟨rfl, hb3⟩
  obtain ⟨hT3, hX3⟩ := HC.out w3 hb3
  clear jT0 jT1 jT2 jT3 jX0 jX1 jX2 jX3 jX4
  have jT0 : w3.cell? ⟨w1.heap.size, 0, none⟩ = some (.slice At0 (List.length t.1) ct0) := hT3.cell 0
  have jT1 : w3.cell? ⟨w1.heap.size, 1, none⟩ = some (.slice At1 (List.length t.2.1) ct1) := hT3.cell 1
  have jT2 : w3.cell? ⟨w1.heap.size, 2, none⟩ = some (.slice At2 (List.length t.2.2.1) ct2) := hT3.cell 2
  have jT3 : w3.cell? ⟨w1.heap.size, 3, none⟩ = some (.slice At3 (List.length t.2.2.2) ct3) := hT3.cell 3
  have jX0 : w3.cell? ⟨w1.heap.size + 1, 0, none⟩ = some (.slice Ax0 (List.length x.1) cx0) := hX3.cell 0
  have jX1 : w3.cell? ⟨w1.heap.size + 1, 1, none⟩ = some (.slice Ax1 (List.length x.2.1) cx1) := hX3.cell 1
  have jX2 : w3.cell? ⟨w1.heap.size + 1, 2, none⟩ = some (.slice Ax2 (List.length x.2.2.1) cx2) := hX3.cell 2
  have jX3 : w3.cell? ⟨w1.heap.size + 1, 3, none⟩ = some (.int .i64 x.2.2.2.1) := hX3.cell 3
  have jX4 : w3.cell? ⟨w1.heap.size + 1, 4, none⟩ = some (.int .i64 x.2.2.2.2) := hX3.cell 4
  cases hq : f_IsTrusted t x (5001 + k) with
  | true =>
    go_wp2_with fail
    refine (C_impl_IsAnchor _ _ t _ x.2.2.1 (Ty.rd_below hb3 ht) (Ty.rd_below hb3 hk) hbt hbk).mono ?_
    rw [old_anchor hok hl hq]
    rintro e w4 ⟨rfl, hb4⟩
    go_wp2
    go_ret
    exact ⟨rfl, bel_trans (bel_trans hwB hb3) hb4⟩
  | false =>
    have HQ := Lib.hid hq
    clear hq
    go_wp2
    go_loopw [6] (fun i wr => ∃ m : Nat, m ≤ 3 ∧ i = .int .i64 m ∧ Below WB.heap.size WB wr) (fun i _ => 3 - (intOf i).toNat)
    case atStart => exact ⟨0, by omega, rfl, hb3⟩
    case round =>
      obtain ⟨m, hm, rfl, hbr⟩ := hrel
      obtain ⟨hTr, hXr⟩ := HC.out wr hbr
      clear jT0 jT1 jT2 jT3 jX0 jX1 jX2 jX3 jX4
      have jT0 : wr.cell? ⟨w1.heap.size, 0, none⟩ = some (.slice At0 (List.length t.1) ct0) := hTr.cell 0
      have jT1 : wr.cell? ⟨w1.heap.size, 1, none⟩ = some (.slice At1 (List.length t.2.1) ct1) := hTr.cell 1
      have jT2 : wr.cell? ⟨w1.heap.size, 2, none⟩ = some (.slice At2 (List.length t.2.2.1) ct2) := hTr.cell 2
      have jT3 : wr.cell? ⟨w1.heap.size, 3, none⟩ = some (.slice At3 (List.length t.2.2.2) ct3) := hTr.cell 3
      have jX0 : wr.cell? ⟨w1.heap.size + 1, 0, none⟩ = some (.slice Ax0 (List.length x.1) cx0) := hXr.cell 0
      have jX1 : wr.cell? ⟨w1.heap.size + 1, 1, none⟩ = some (.slice Ax1 (List.length x.2.1) cx1) := hXr.cell 1
      have jX2 : wr.cell? ⟨w1.heap.size + 1, 2, none⟩ = some (.slice Ax2 (List.length x.2.2.1) cx2) := hXr.cell 2
      have jX3 : wr.cell? ⟨w1.heap.size + 1, 3, none⟩ = some (.int .i64 x.2.2.2.1) := hXr.cell 3
      have jX4 : wr.cell? ⟨w1.heap.size + 1, 4, none⟩ = some (.int .i64 x.2.2.2.2) := hXr.cell 4
      by_cases hlt : m < 3
      · have im : -9223372036854775808 ≤ 5001 + k - (m : Int) ∧ 5001 + k - (m : Int) ≤ 9223372036854775807 := by omega
        go_wp2_with fail
        refine (C_impl_IsTrusted _ _ t _ x (5001 + k - (m : Int)) (Ty.rd_below hbr ht) (Ty.rd_below hbr hx) hbt hbx im).mono ?_
        rintro e w5 ⟨rfl, hb5⟩
        have hb5' : Below WB.heap.size WB w5 := bel_trans hbr hb5
        obtain ⟨hT5, hX5⟩ := HC.out w5 hb5'
        clear jT0 jT1 jT2 jT3 jX0 jX1 jX2 jX3 jX4
        have jT0 : w5.cell? ⟨w1.heap.size, 0, none⟩ = some (.slice At0 (List.length t.1) ct0) := hT5.cell 0
        have jT1 : w5.cell? ⟨w1.heap.size, 1, none⟩ = some (.slice At1 (List.length t.2.1) ct1) := hT5.cell 1
        have jT2 : w5.cell? ⟨w1.heap.size, 2, none⟩ = some (.slice At2 (List.length t.2.2.1) ct2) := hT5.cell 2
        have jT3 : w5.cell? ⟨w1.heap.size, 3, none⟩ = some (.slice At3 (List.length t.2.2.2) ct3) := hT5.cell 3
        have jX0 : w5.cell? ⟨w1.heap.size + 1, 0, none⟩ = some (.slice Ax0 (List.length x.1) cx0) := hX5.cell 0
        have jX1 : w5.cell? ⟨w1.heap.size + 1, 1, none⟩ = some (.slice Ax1 (List.length x.2.1) cx1) := hX5.cell 1
        have jX2 : w5.cell? ⟨w1.heap.size + 1, 2, none⟩ = some (.slice Ax2 (List.length x.2.2.1) cx2) := hX5.cell 2
        have jX3 : w5.cell? ⟨w1.heap.size + 1, 3, none⟩ = some (.int .i64 x.2.2.2.1) := hX5.cell 3
        have jX4 : w5.cell? ⟨w1.heap.size + 1, 4, none⟩ = some (.int .i64 x.2.2.2.2) := hX5.cell 4
        cases hq5 : f_IsTrusted t x (5001 + k - (m : Int)) with
        | true =>
          go_wp2_with fail
          refine (C_impl_IsTrusted _ _ t _ x 5000 (Ty.rd_below hb5' ht) (Ty.rd_below hb5' hx) hbt hbx (by decide)).mono ?_
          rw [old_step hok hl HQ.out hq5]
          rintro e w6 ⟨rfl, hb6⟩
          go_wp2
          go_roundw
          case rel => exact ⟨m + 1, by omega, by go_num, bel_trans hb5' hb6⟩
          case measure => simp [intOf]; omega
        | false =>
          go_wp2
          go_roundw
          case rel => exact ⟨m + 1, by omega, by go_num, hb5'⟩
          case measure => simp [intOf]; omega
      · go_wp2_with fail
        refine (C_impl_FindCertificate _ _ t _ x.2.2.1 (5001 + k) (Ty.rd_below hbr ht) (Ty.rd_below hbr hk) hbt hbk il).mono ?_
        rw [old_find hok hl]
        rintro e w6 ⟨rfl, hb6⟩
        go_wp2
        go_ret
        exact ⟨rfl, bel_trans (bel_trans hwB hbr) hb6⟩
end Go.Proofs.Ytldgbnlcnlfmeaa

/- Proved here: the given statement FnOldPapersSaid: after a certificate has expired, nothing signed by its key is trusted, unless the key is an anchor; the law returns true for all inputs. Conditions: none. -/
namespace Go.Proofs.Ytldgbnlcnlfmeaa.clFnOldPapers
open Go.ChangeShapes Go.WideShapes Go.ChangeAt Go.RowKit
set_option linter.unusedVariables false

theorem own : ownKnob Try.prog.godebug = none := by kernel_rfl
theorem laidOut : laidOutB Try.prog = true := by kernel_rfl
section
variable {H : Type} {enc : TypeId × Value → H} {w : World} {base : Nat} {spare : Nat → Bool} {held : Bool}
theorem o_byte : Opens enc Try.prog w base spare held 5 .byte := opens_byte Try.underlying5
theorem o_ByteS : Opens enc Try.prog w base spare held 22 (.sl .byte) := opens_sl Try.underlying22 (by kernel_rfl) (by decide) o_byte
end

set_option maxRecDepth 100000 in
theorem lifted (os : Os) (started : os.Started) (H : Type) (enc : TypeId × Value → H) :
    ReturnsInHanded {} Try.checked os 4 .any (Rows.fnOldPapersSpec.pre6 enc Try.prog Try.f4 Rows.fnOldPapersRow.domain false) (Rows.fnOldPapersSpec.post enc Try.prog Try.f4 false true false false) := by
  refine returnsInHanded_of_change (C := Try.checked) own started (by kernel_rfl) Try.func4
    (ChangeSpec.witness6 (enc := enc) (C := Try.checked) false ⟨#[], #[.slice none 0 0], []⟩ 8 (by kernel_rfl) (by kernel_rfl) (by kernel_rfl) (by kernel_rfl)) ?_
  intro W base args ds gs before hval0 hW hcnd _
  have hval : ∀ (j : Nat) t v, Try.f4.params[j]? = some t → args[j]? = some v → Value.okWide Try.prog W .any base t v := hval0
  have hW' := hW
  obtain ⟨p, q, hA0, hV, rfl, hfz, hnd⟩ := hW
  have hA : DataW.TrodAll enc Try.prog W 0 (fun _ => true) true Try.f4.params.toList args.toList ds p := hA0
  rw [Try.params4] at hA hval
  obtain ⟨v0, vs0, d0, ds0, p0, q0, hargs, rfl, rfl, h0, r0⟩ := trodAll_cons hA
  obtain ⟨rfl, rfl, rfl⟩ := trodAll_nil r0
  obtain rfl : args = #[v0] := by cases args; simp_all
  obtain ⟨rfl, rfl⟩ := trodVars_none hV
  have k0 := h0
  have lt0 : ∀ x ∈ p0, x.block < W.heap.size := by obtain ⟨m, hm⟩ := k0; exact DataW.trod_lt m _ _ _ hm
  obtain ⟨A0, n0, c0, rfl⟩ := okWide_slice Try.underlying22 (hval 0 22 v0 rfl rfl)
  obtain ⟨f0, g0⟩ := h0
  obtain ⟨x0, xh0⟩ := o_ByteS _ _ _ g0
  clear hA0 hval0
  refine (L_FnOldPapers W _ x0 xh0).mono fun e W' ⟨he, bel⟩ => ?_
  subst he
  exact ⟨_, rfl, _, _, _, [], _, [], hW', trodAll_mk1 (shut_bool Try.underlying4 _), (trodAll_cons_mk (Below.trod laidOut (by kernel_rfl) (of_decide_eq_true (by kernel_rfl)) k0 bel lt0) trodAll_mk0), rfl, bel.frame _, fun h => by cases h⟩

theorem proved : Rows.FnOldPapersSaid :=
  OpenClaim.holds_of_wide 4 Try.f4 rfl rfl rfl rfl rfl rfl rfl ⟨rfl, rfl, rfl, rfl, rfl⟩ rfl rfl rfl rfl rfl (by kernel_rfl) Try.func4 (by kernel_rfl)
    (of_decide_eq_true (by kernel_rfl)) (by unfold Func.isWrapper; first | (rw [if_pos (by decide +kernel)]; kernel_rfl) | (rw [if_neg (by decide +kernel)]; exact ⟨rfl, rfl⟩))
    (fun os started H enc _ => lifted os started H enc)
end Go.Proofs.Ytldgbnlcnlfmeaa.clFnOldPapers
