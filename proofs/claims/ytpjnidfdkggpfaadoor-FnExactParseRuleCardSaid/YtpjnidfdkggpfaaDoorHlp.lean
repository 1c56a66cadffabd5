/- The helper functions of the statements: sizes, copies, comparisons, marks, for each type. Printed by a program. -/
import Derived.Test.YtpjnidfdkggpfaaDoorStr
import Derived.StillTailTactics
namespace Go.Proofs.YtpjnidfdkggpfaaDoor
open Go.RowKit
set_option linter.unusedVariables false
set_option linter.unusedSimpArgs false

set_option maxHeartbeats 400000 in
theorem C_laws_szName (w : World) (cs : List Value) (x : Ty.D (.sl .str)) (left : Int) (h : Ty.rd w (.sl .str) cs x) (h0 : 0 ≤ left) (h1 : left ≤ 1048576) :
    Calls Tryd.prog 15 #[.agg cs.toArray, .int .i64 left] w (RetSz w left (Ty.bulk (.sl .str) x)) := by
  obtain ⟨Aa0, ca0, rfl⟩ := Ty.rd_slv h
  have sag0 := h
  go_enter Tryd.func15, Tryd.ntmps15
  go_wp2_with fail
  refine (C_laws_szStringS _ _ _ left (Ty.rd_below (by repeat' (first | (with_reducible exact Below.refl _ _) | (with_reducible assumption) | (with_reducible refine bel_set ?_ (by (try dsimp only); omega) _) | (with_reducible refine bel_alloc ?_ _) | (with_reducible refine bel_drewN ?_ _) | (with_reducible refine bel_drew ?_))) sag0) h0 h1).mono ?_
  rintro e w0 ⟨r0, rfl, hr0, hb0⟩
  have hw0 : Below w.heap.size w w0 := bel_trans (by repeat' (first | (with_reducible exact Below.refl _ _) | (with_reducible assumption) | (with_reducible refine bel_set ?_ (by (try dsimp only); omega) _) | (with_reducible refine bel_alloc ?_ _) | (with_reducible refine bel_drewN ?_ _) | (with_reducible refine bel_drew ?_))) hb0
  obtain ⟨hc0, hf0⟩ := bcell hb0
  have hz0 := hb0.size
  try simp only [World.size_alloc] at hz0
  have z00 : w.heap.size < w0.heap.size := by omega
  rcases hr0 with rfl | ⟨p0, q0⟩
  · go_wp2
    go_ret
    exact ⟨-1, rfl, .inl rfl, hw0⟩
  go_wp2
  go_ret
  exact ⟨r0, rfl, .inr ⟨p0, by show r0 + ((Ty.bulk (.sl .str) x : Nat) : Int) ≤ left; omega⟩, hw0⟩

set_option maxHeartbeats 1000000 in
theorem C_laws_toName (w : World) (cs : List Value) (x : Ty.D (.sl .str)) (h : Ty.rd w (.sl .str) cs x) (h1 : Ty.bulk (.sl .str) x ≤ 1048576) :
    Calls Tryd.prog 18 #[.agg cs.toArray] w (RetAgg w (.sl .str) x) := by
  obtain ⟨Aa0, ca0, rfl⟩ := Ty.rd_slv h
  have sag0 := h
  have h1' : Ty.bulk (.sl .str) x ≤ 1048576 := h1
  go_enter Tryd.func18, Tryd.ntmps18
  go_wp2_with fail
  refine (C_laws_toStringS _ _ _ (Ty.rd_below (by repeat' (first | (with_reducible exact Below.refl _ _) | (with_reducible assumption) | (with_reducible refine bel_set ?_ (by (try dsimp only); omega) _) | (with_reducible refine bel_alloc ?_ _) | (with_reducible refine bel_drewN ?_ _) | (with_reducible refine bel_drew ?_))) sag0) (by omega)).mono ?_
  rintro e w0 ⟨A0, c0, fp0, rfl, how0, hfr0, hb0⟩
  have hw0 : Below w.heap.size w w0 := bel_trans (by repeat' (first | (with_reducible exact Below.refl _ _) | (with_reducible assumption) | (with_reducible refine bel_set ?_ (by (try dsimp only); omega) _) | (with_reducible refine bel_alloc ?_ _) | (with_reducible refine bel_drewN ?_ _) | (with_reducible refine bel_drew ?_))) hb0
  obtain ⟨hc0, hf0⟩ := bcell hb0
  have hz0 := hb0.size
  try simp only [World.size_alloc, World.size_setCell] at hz0
  have zw00 : w.heap.size < w0.heap.size := by omega
  have zw01 : w.heap.size + 1 < w0.heap.size := by omega
  have zw02 : w.heap.size + 1 + 1 < w0.heap.size := by omega
  go_wp2
  refine bodyPost_ret (v := .agg #[.slice A0 (List.length x) c0]) (by simp [results, Tryd.results18, go_sem, hc0, hf0, zw00, zw01, zw02]) rfl ?_
  exact ⟨_, fp0, rfl, Ty.ow_keep (by intro b hb'; have hb'' := (hfr0).2 b hb'; (try simp only [World.size_alloc, World.size_setCell, size_drewN, World.size_drew] at hb''); repeat (first | (with_reducible rfl) | (rw [Below.heap_setCell _ _ _ _ (by (try dsimp only); omega)]) | (rw [Below.heap_alloc _ _ _ (by simp only [World.size_alloc, World.size_setCell]; omega)]))) how0, (hfr0.mono (by (try simp only [World.size_alloc, World.size_setCell, size_drewN, World.size_drew]); omega) (by (try simp only [World.size_alloc, World.size_setCell, size_drewN, World.size_drew]); omega)), bel_trans (by repeat' (first | (with_reducible exact Below.refl _ _) | (with_reducible assumption) | (with_reducible refine bel_set ?_ (by (try dsimp only); omega) _) | (with_reducible refine bel_alloc ?_ _) | (with_reducible refine bel_drewN ?_ _) | (with_reducible refine bel_drew ?_))) (Below.refl _ _)⟩

set_option maxHeartbeats 1000000 in
theorem C_laws_eqName (w : World) (cs1 cs2 : List Value) (x : Ty.D (.sl .str)) (h1 : Ty.rd w (.sl .str) cs1 x) (h2 : Ty.rd w (.sl .str) cs2 x) :
    Calls Tryd.prog 21 #[.agg cs1.toArray, .agg cs2.toArray] w (RetB w true) := by
  obtain ⟨Aa0, ca0, rfl⟩ := Ty.rd_slv h1
  have sag0 := h1
  obtain ⟨Ab0, cb0, rfl⟩ := Ty.rd_slv h2
  have tbg0 := h2
  go_enter Tryd.func21, Tryd.ntmps21
  go_wp2_with fail
  refine (C_laws_eqStringS _ _ _ _ (Ty.rd_below (by repeat' (first | (with_reducible exact Below.refl _ _) | (with_reducible assumption) | (with_reducible refine bel_set ?_ (by (try dsimp only); omega) _) | (with_reducible refine bel_alloc ?_ _) | (with_reducible refine bel_drewN ?_ _) | (with_reducible refine bel_drew ?_))) sag0) (Ty.rd_below (by repeat' (first | (with_reducible exact Below.refl _ _) | (with_reducible assumption) | (with_reducible refine bel_set ?_ (by (try dsimp only); omega) _) | (with_reducible refine bel_alloc ?_ _) | (with_reducible refine bel_drewN ?_ _) | (with_reducible refine bel_drew ?_))) tbg0)).mono ?_
  rintro e w0 ⟨rfl, hb0⟩
  have hw0 : Below w.heap.size w w0 := bel_trans (by repeat' (first | (with_reducible exact Below.refl _ _) | (with_reducible assumption) | (with_reducible refine bel_set ?_ (by (try dsimp only); omega) _) | (with_reducible refine bel_alloc ?_ _) | (with_reducible refine bel_drewN ?_ _) | (with_reducible refine bel_drew ?_))) hb0
  obtain ⟨hc0, hf0⟩ := bcell hb0
  have hz0 := hb0.size
  try simp only [World.size_alloc, World.size_setCell] at hz0
  have zw00 : w.heap.size < w0.heap.size := by omega
  have zw01 : w.heap.size + 1 < w0.heap.size := by omega
  go_wp2
  go_ret
  exact ⟨rfl, (by repeat' (first | (with_reducible exact Below.refl _ _) | (with_reducible assumption) | (with_reducible refine bel_set ?_ (by (try dsimp only); omega) _) | (with_reducible refine bel_alloc ?_ _) | (with_reducible refine bel_drewN ?_ _) | (with_reducible refine bel_drew ?_)))⟩

set_option maxHeartbeats 1000000 in
theorem C_laws_eqPattern (w : World) (cs1 cs2 : List Value) (x : Ty.D (.sl .str)) (h1 : Ty.rd w (.sl .str) cs1 x) (h2 : Ty.rd w (.sl .str) cs2 x) :
    Calls Tryd.prog 29 #[.agg cs1.toArray, .agg cs2.toArray] w (RetB w true) := by
  obtain ⟨Aa0, ca0, rfl⟩ := Ty.rd_slv h1
  have sag0 := h1
  obtain ⟨Ab0, cb0, rfl⟩ := Ty.rd_slv h2
  have tbg0 := h2
  go_enter Tryd.func29, Tryd.ntmps29
  go_wp2_with fail
  refine (C_laws_eqStringS _ _ _ _ (Ty.rd_below (by repeat' (first | (with_reducible exact Below.refl _ _) | (with_reducible assumption) | (with_reducible refine bel_set ?_ (by (try dsimp only); omega) _) | (with_reducible refine bel_alloc ?_ _) | (with_reducible refine bel_drewN ?_ _) | (with_reducible refine bel_drew ?_))) sag0) (Ty.rd_below (by repeat' (first | (with_reducible exact Below.refl _ _) | (with_reducible assumption) | (with_reducible refine bel_set ?_ (by (try dsimp only); omega) _) | (with_reducible refine bel_alloc ?_ _) | (with_reducible refine bel_drewN ?_ _) | (with_reducible refine bel_drew ?_))) tbg0)).mono ?_
  rintro e w0 ⟨rfl, hb0⟩
  have hw0 : Below w.heap.size w w0 := bel_trans (by repeat' (first | (with_reducible exact Below.refl _ _) | (with_reducible assumption) | (with_reducible refine bel_set ?_ (by (try dsimp only); omega) _) | (with_reducible refine bel_alloc ?_ _) | (with_reducible refine bel_drewN ?_ _) | (with_reducible refine bel_drew ?_))) hb0
  obtain ⟨hc0, hf0⟩ := bcell hb0
  have hz0 := hb0.size
  try simp only [World.size_alloc, World.size_setCell] at hz0
  have zw00 : w.heap.size < w0.heap.size := by omega
  have zw01 : w.heap.size + 1 < w0.heap.size := by omega
  go_wp2
  go_ret
  exact ⟨rfl, (by repeat' (first | (with_reducible exact Below.refl _ _) | (with_reducible assumption) | (with_reducible refine bel_set ?_ (by (try dsimp only); omega) _) | (with_reducible refine bel_alloc ?_ _) | (with_reducible refine bel_drewN ?_ _) | (with_reducible refine bel_drew ?_)))⟩

abbrev tInterest : Ty := (.pr (.sl .str) (.pr .int (.pr .int .int)))
theorem rd_Interest {w : World} {cs : List Value} {x : tInterest.D} (h : tInterest.rd w cs x) : ∃ (A0 : Option Addr) (c0 : Nat), cs = [.slice A0 (List.length x.1) c0, .int .i64 x.2.1, .int .i64 x.2.2.1, .int .i64 x.2.2.2] ∧ (Ty.rd w (.sl .str) [.slice A0 (List.length x.1) c0] x.1) ∧ (-9223372036854775808 ≤ x.2.1 ∧ x.2.1 ≤ 9223372036854775807) ∧ (-9223372036854775808 ≤ x.2.2.1 ∧ x.2.2.1 ≤ 9223372036854775807) ∧ (-9223372036854775808 ≤ x.2.2.2 ∧ x.2.2.2 ≤ 9223372036854775807) := by
  obtain ⟨c0, r0, rfl, g0, q0⟩ := h
  obtain ⟨c1, r1, rfl, g1, q1⟩ := q0
  obtain ⟨c2, r2, rfl, g2, q2⟩ := q1
  have g3 := q2
  obtain ⟨A0, c0, rfl⟩ := Ty.rd_slv g0
  obtain ⟨rfl, b1⟩ := g1
  obtain ⟨rfl, b2⟩ := g2
  obtain ⟨rfl, b3⟩ := g3
  exact ⟨A0, c0, rfl, g0, b1, b2, b3⟩

theorem ow_Interest {w : World} {cs : List Value} {x : tInterest.D} {fp : List Nat} (h : tInterest.ow w cs x fp) : ∃ (A0 : Option Addr) (c0 : Nat), cs = [.slice A0 (List.length x.1) c0, .int .i64 x.2.1, .int .i64 x.2.2.1, .int .i64 x.2.2.2] := by
  obtain ⟨c0, r0, f0, t0, rfl, _, g0, q0⟩ := h
  obtain ⟨c1, r1, f1, t1, rfl, _, g1, q1⟩ := q0
  obtain ⟨c2, r2, f2, t2, rfl, _, g2, q2⟩ := q1
  have g3 := q2
  obtain ⟨A0, c0, rfl⟩ := Ty.ow_slv g0
  obtain ⟨⟨rfl, b1⟩, _⟩ := g1
  obtain ⟨⟨rfl, b2⟩, _⟩ := g2
  obtain ⟨⟨rfl, b3⟩, _⟩ := g3
  exact ⟨A0, c0, rfl⟩

set_option maxHeartbeats 400000 in
theorem C_laws_szInterest (w : World) (cs : List Value) (x : Ty.D tInterest) (left : Int) (h : Ty.rd w tInterest cs x) (h0 : 0 ≤ left) (h1 : left ≤ 1048576) :
    Calls Tryd.prog 5 #[.agg cs.toArray, .int .i64 left] w (RetSz w left (Ty.bulk tInterest x)) := by
  obtain ⟨Aa0, ca0, rfl, sag0, sag1, sag2, sag3⟩ := rd_Interest h
  go_enter Tryd.func5, Tryd.ntmps5
  go_wp2_with fail
  refine (C_laws_szName _ _ _ left (Ty.rd_below (by repeat' (first | (with_reducible exact Below.refl _ _) | (with_reducible assumption) | (with_reducible refine bel_set ?_ (by (try dsimp only); omega) _) | (with_reducible refine bel_alloc ?_ _) | (with_reducible refine bel_drewN ?_ _) | (with_reducible refine bel_drew ?_))) sag0) h0 h1).mono ?_
  rintro e w0 ⟨r0, rfl, hr0, hb0⟩
  have hw0 : Below w.heap.size w w0 := bel_trans (by repeat' (first | (with_reducible exact Below.refl _ _) | (with_reducible assumption) | (with_reducible refine bel_set ?_ (by (try dsimp only); omega) _) | (with_reducible refine bel_alloc ?_ _) | (with_reducible refine bel_drewN ?_ _) | (with_reducible refine bel_drew ?_))) hb0
  obtain ⟨hc0, hf0⟩ := bcell hb0
  have hz0 := hb0.size
  try simp only [World.size_alloc] at hz0
  have z00 : w.heap.size < w0.heap.size := by omega
  rcases hr0 with rfl | ⟨p0, q0⟩
  · go_wp2
    go_ret
    exact ⟨-1, rfl, .inl rfl, hw0⟩
  go_wp2
  go_ret
  exact ⟨r0, rfl, .inr ⟨p0, by show r0 + (((Ty.bulk (.sl .str) x.1 + (0 + (0 + 0))) : Nat) : Int) ≤ left; omega⟩, hw0⟩

set_option maxHeartbeats 1000000 in
theorem C_laws_toInterest (w : World) (cs : List Value) (x : Ty.D tInterest) (h : Ty.rd w tInterest cs x) (h1 : Ty.bulk tInterest x ≤ 1048576) :
    Calls Tryd.prog 7 #[.agg cs.toArray] w (RetAgg w tInterest x) := by
  obtain ⟨Aa0, ca0, rfl, sag0, sag1, sag2, sag3⟩ := rd_Interest h
  have h1' : (Ty.bulk (.sl .str) x.1 + (0 + (0 + 0))) ≤ 1048576 := h1
  go_enter Tryd.func7, Tryd.ntmps7
  go_wp2_with fail
  refine (C_laws_toName _ _ _ (Ty.rd_below (by repeat' (first | (with_reducible exact Below.refl _ _) | (with_reducible assumption) | (with_reducible refine bel_set ?_ (by (try dsimp only); omega) _) | (with_reducible refine bel_alloc ?_ _) | (with_reducible refine bel_drewN ?_ _) | (with_reducible refine bel_drew ?_))) sag0) (by omega)).mono ?_
  rintro e w0 ⟨cs0, fp0, rfl, how0, hfr0, hb0⟩
  obtain ⟨A0, c0, rfl⟩ := Ty.ow_slv how0
  have hw0 : Below w.heap.size w w0 := bel_trans (by repeat' (first | (with_reducible exact Below.refl _ _) | (with_reducible assumption) | (with_reducible refine bel_set ?_ (by (try dsimp only); omega) _) | (with_reducible refine bel_alloc ?_ _) | (with_reducible refine bel_drewN ?_ _) | (with_reducible refine bel_drew ?_))) hb0
  obtain ⟨hc0, hf0⟩ := bcell hb0
  have hz0 := hb0.size
  try simp only [World.size_alloc, World.size_setCell] at hz0
  have zw00 : w.heap.size < w0.heap.size := by omega
  have zw01 : w.heap.size + 1 < w0.heap.size := by omega
  have zw02 : w.heap.size + 1 + 1 < w0.heap.size := by omega
  go_wp2
  refine bodyPost_ret (v := .agg #[.slice A0 (List.length x.1) c0, .int .i64 x.2.1, .int .i64 x.2.2.1, .int .i64 x.2.2.2]) (by simp [results, Tryd.results7, go_sem, hc0, hf0, zw00, zw01, zw02]) rfl ?_
  exact ⟨_, (fp0 ++ ([] ++ ([] ++ []))), rfl, ⟨[.slice A0 (List.length x.1) c0], [.int .i64 x.2.1, .int .i64 x.2.2.1, .int .i64 x.2.2.2], fp0, ([] ++ ([] ++ [])), rfl, rfl, Ty.ow_keep (by intro b hb'; have hb'' := (hfr0).2 b hb'; (try simp only [World.size_alloc, World.size_setCell, size_drewN, World.size_drew] at hb''); repeat (first | (with_reducible rfl) | (rw [Below.heap_setCell _ _ _ _ (by (try dsimp only); omega)]) | (rw [Below.heap_alloc _ _ _ (by simp only [World.size_alloc, World.size_setCell]; omega)]))) how0, ⟨[.int .i64 x.2.1], [.int .i64 x.2.2.1, .int .i64 x.2.2.2], [], ([] ++ []), rfl, rfl, ⟨⟨rfl, sag1⟩, rfl⟩, ⟨[.int .i64 x.2.2.1], [.int .i64 x.2.2.2], [], [], rfl, rfl, ⟨⟨rfl, sag2⟩, rfl⟩, ⟨⟨rfl, sag3⟩, rfl⟩⟩⟩⟩, (FrI.app (hfr0.mono (by (try simp only [World.size_alloc, World.size_setCell, size_drewN, World.size_drew]); omega) (Nat.le_refl _)) (FrI.nil w0.heap.size _) (by (try simp only [World.size_alloc, World.size_setCell, size_drewN, World.size_drew]); omega) (by (try simp only [World.size_alloc, World.size_setCell, size_drewN, World.size_drew]); omega) (by (try simp only [World.size_alloc, World.size_setCell, size_drewN, World.size_drew]); omega)), bel_trans (by repeat' (first | (with_reducible exact Below.refl _ _) | (with_reducible assumption) | (with_reducible refine bel_set ?_ (by (try dsimp only); omega) _) | (with_reducible refine bel_alloc ?_ _) | (with_reducible refine bel_drewN ?_ _) | (with_reducible refine bel_drew ?_))) (Below.refl _ _)⟩

set_option maxHeartbeats 1000000 in
theorem C_laws_eqInterest (w : World) (cs1 cs2 : List Value) (x : Ty.D tInterest) (h1 : Ty.rd w tInterest cs1 x) (h2 : Ty.rd w tInterest cs2 x) :
    Calls Tryd.prog 9 #[.agg cs1.toArray, .agg cs2.toArray] w (RetB w true) := by
  obtain ⟨Aa0, ca0, rfl, sag0, sag1, sag2, sag3⟩ := rd_Interest h1
  obtain ⟨Ab0, cb0, rfl, tbg0, tbg1, tbg2, tbg3⟩ := rd_Interest h2
  go_enter Tryd.func9, Tryd.ntmps9
  go_wp2_with fail
  refine (C_laws_eqName _ _ _ _ (Ty.rd_below (by repeat' (first | (with_reducible exact Below.refl _ _) | (with_reducible assumption) | (with_reducible refine bel_set ?_ (by (try dsimp only); omega) _) | (with_reducible refine bel_alloc ?_ _) | (with_reducible refine bel_drewN ?_ _) | (with_reducible refine bel_drew ?_))) sag0) (Ty.rd_below (by repeat' (first | (with_reducible exact Below.refl _ _) | (with_reducible assumption) | (with_reducible refine bel_set ?_ (by (try dsimp only); omega) _) | (with_reducible refine bel_alloc ?_ _) | (with_reducible refine bel_drewN ?_ _) | (with_reducible refine bel_drew ?_))) tbg0)).mono ?_
  rintro e w0 ⟨rfl, hb0⟩
  have hw0 : Below w.heap.size w w0 := bel_trans (by repeat' (first | (with_reducible exact Below.refl _ _) | (with_reducible assumption) | (with_reducible refine bel_set ?_ (by (try dsimp only); omega) _) | (with_reducible refine bel_alloc ?_ _) | (with_reducible refine bel_drewN ?_ _) | (with_reducible refine bel_drew ?_))) hb0
  obtain ⟨hc0, hf0⟩ := bcell hb0
  have hz0 := hb0.size
  try simp only [World.size_alloc, World.size_setCell] at hz0
  have zw00 : w.heap.size < w0.heap.size := by omega
  have zw01 : w.heap.size + 1 < w0.heap.size := by omega
  go_wp2
  go_ret
  exact ⟨rfl, (by repeat' (first | (with_reducible exact Below.refl _ _) | (with_reducible assumption) | (with_reducible refine bel_set ?_ (by (try dsimp only); omega) _) | (with_reducible refine bel_alloc ?_ _) | (with_reducible refine bel_drewN ?_ _) | (with_reducible refine bel_drew ?_)))⟩

abbrev tData : Ty := (.pr (.sl .str) (.pr (.sl .byte) (.pr (.sl .str) (.pr .int .int))))
theorem rd_Data {w : World} {cs : List Value} {x : tData.D} (h : tData.rd w cs x) : ∃ (A0 : Option Addr) (c0 : Nat) (A1 : Option Addr) (c1 : Nat) (A2 : Option Addr) (c2 : Nat), cs = [.slice A0 (List.length x.1) c0, .slice A1 (List.length x.2.1) c1, .slice A2 (List.length x.2.2.1) c2, .int .i64 x.2.2.2.1, .int .i64 x.2.2.2.2] ∧ (Ty.rd w (.sl .str) [.slice A0 (List.length x.1) c0] x.1) ∧ (Ty.rd w (.sl .byte) [.slice A1 (List.length x.2.1) c1] x.2.1) ∧ (Ty.rd w (.sl .str) [.slice A2 (List.length x.2.2.1) c2] x.2.2.1) ∧ (-9223372036854775808 ≤ x.2.2.2.1 ∧ x.2.2.2.1 ≤ 9223372036854775807) ∧ (-9223372036854775808 ≤ x.2.2.2.2 ∧ x.2.2.2.2 ≤ 9223372036854775807) := by
  obtain ⟨c0, r0, rfl, g0, q0⟩ := h
  obtain ⟨c1, r1, rfl, g1, q1⟩ := q0
  obtain ⟨c2, r2, rfl, g2, q2⟩ := q1
  obtain ⟨c3, r3, rfl, g3, q3⟩ := q2
  have g4 := q3
  obtain ⟨A0, c0, rfl⟩ := Ty.rd_slv g0
  obtain ⟨A1, c1, rfl⟩ := Ty.rd_slv g1
  obtain ⟨A2, c2, rfl⟩ := Ty.rd_slv g2
  obtain ⟨rfl, b3⟩ := g3
  obtain ⟨rfl, b4⟩ := g4
  exact ⟨A0, c0, A1, c1, A2, c2, rfl, g0, g1, g2, b3, b4⟩

theorem ow_Data {w : World} {cs : List Value} {x : tData.D} {fp : List Nat} (h : tData.ow w cs x fp) : ∃ (A0 : Option Addr) (c0 : Nat) (A1 : Option Addr) (c1 : Nat) (A2 : Option Addr) (c2 : Nat), cs = [.slice A0 (List.length x.1) c0, .slice A1 (List.length x.2.1) c1, .slice A2 (List.length x.2.2.1) c2, .int .i64 x.2.2.2.1, .int .i64 x.2.2.2.2] := by
  obtain ⟨c0, r0, f0, t0, rfl, _, g0, q0⟩ := h
  obtain ⟨c1, r1, f1, t1, rfl, _, g1, q1⟩ := q0
  obtain ⟨c2, r2, f2, t2, rfl, _, g2, q2⟩ := q1
  obtain ⟨c3, r3, f3, t3, rfl, _, g3, q3⟩ := q2
  have g4 := q3
  obtain ⟨A0, c0, rfl⟩ := Ty.ow_slv g0
  obtain ⟨A1, c1, rfl⟩ := Ty.ow_slv g1
  obtain ⟨A2, c2, rfl⟩ := Ty.ow_slv g2
  obtain ⟨⟨rfl, b3⟩, _⟩ := g3
  obtain ⟨⟨rfl, b4⟩, _⟩ := g4
  exact ⟨A0, c0, A1, c1, A2, c2, rfl⟩

abbrev tKey : Ty := (.pr (.sl .str) .int)
theorem rd_Key {w : World} {cs : List Value} {x : tKey.D} (h : tKey.rd w cs x) : ∃ (A0 : Option Addr) (c0 : Nat), cs = [.slice A0 (List.length x.1) c0, .int .i64 x.2] ∧ (Ty.rd w (.sl .str) [.slice A0 (List.length x.1) c0] x.1) ∧ (-9223372036854775808 ≤ x.2 ∧ x.2 ≤ 9223372036854775807) := by
  obtain ⟨c0, r0, rfl, g0, q0⟩ := h
  have g1 := q0
  obtain ⟨A0, c0, rfl⟩ := Ty.rd_slv g0
  obtain ⟨rfl, b1⟩ := g1
  exact ⟨A0, c0, rfl, g0, b1⟩

theorem ow_Key {w : World} {cs : List Value} {x : tKey.D} {fp : List Nat} (h : tKey.ow w cs x fp) : ∃ (A0 : Option Addr) (c0 : Nat), cs = [.slice A0 (List.length x.1) c0, .int .i64 x.2] := by
  obtain ⟨c0, r0, f0, t0, rfl, _, g0, q0⟩ := h
  have g1 := q0
  obtain ⟨A0, c0, rfl⟩ := Ty.ow_slv g0
  obtain ⟨⟨rfl, b1⟩, _⟩ := g1
  exact ⟨A0, c0, rfl⟩

abbrev tRule : Ty := (.pr (.sl .str) (.sl .str))
theorem rd_Rule {w : World} {cs : List Value} {x : tRule.D} (h : tRule.rd w cs x) : ∃ (A0 : Option Addr) (c0 : Nat) (A1 : Option Addr) (c1 : Nat), cs = [.slice A0 (List.length x.1) c0, .slice A1 (List.length x.2) c1] ∧ (Ty.rd w (.sl .str) [.slice A0 (List.length x.1) c0] x.1) ∧ (Ty.rd w (.sl .str) [.slice A1 (List.length x.2) c1] x.2) := by
  obtain ⟨c0, r0, rfl, g0, q0⟩ := h
  have g1 := q0
  obtain ⟨A0, c0, rfl⟩ := Ty.rd_slv g0
  obtain ⟨A1, c1, rfl⟩ := Ty.rd_slv g1
  exact ⟨A0, c0, A1, c1, rfl, g0, g1⟩

theorem ow_Rule {w : World} {cs : List Value} {x : tRule.D} {fp : List Nat} (h : tRule.ow w cs x fp) : ∃ (A0 : Option Addr) (c0 : Nat) (A1 : Option Addr) (c1 : Nat), cs = [.slice A0 (List.length x.1) c0, .slice A1 (List.length x.2) c1] := by
  obtain ⟨c0, r0, f0, t0, rfl, _, g0, q0⟩ := h
  have g1 := q0
  obtain ⟨A0, c0, rfl⟩ := Ty.ow_slv g0
  obtain ⟨A1, c1, rfl⟩ := Ty.ow_slv g1
  exact ⟨A0, c0, A1, c1, rfl⟩

set_option maxHeartbeats 1000000 in
theorem C_laws_eqRule (w : World) (cs1 cs2 : List Value) (x : Ty.D tRule) (h1 : Ty.rd w tRule cs1 x) (h2 : Ty.rd w tRule cs2 x) :
    Calls Tryd.prog 12 #[.agg cs1.toArray, .agg cs2.toArray] w (RetB w true) := by
  obtain ⟨Aa0, ca0, Aa1, ca1, rfl, sag0, sag1⟩ := rd_Rule h1
  obtain ⟨Ab0, cb0, Ab1, cb1, rfl, tbg0, tbg1⟩ := rd_Rule h2
  go_enter Tryd.func12, Tryd.ntmps12
  go_wp2_with fail
  refine (C_laws_eqPattern _ _ _ _ (Ty.rd_below (by repeat' (first | (with_reducible exact Below.refl _ _) | (with_reducible assumption) | (with_reducible refine bel_set ?_ (by (try dsimp only); omega) _) | (with_reducible refine bel_alloc ?_ _) | (with_reducible refine bel_drewN ?_ _) | (with_reducible refine bel_drew ?_))) sag0) (Ty.rd_below (by repeat' (first | (with_reducible exact Below.refl _ _) | (with_reducible assumption) | (with_reducible refine bel_set ?_ (by (try dsimp only); omega) _) | (with_reducible refine bel_alloc ?_ _) | (with_reducible refine bel_drewN ?_ _) | (with_reducible refine bel_drew ?_))) tbg0)).mono ?_
  rintro e w0 ⟨rfl, hb0⟩
  have hw0 : Below w.heap.size w w0 := bel_trans (by repeat' (first | (with_reducible exact Below.refl _ _) | (with_reducible assumption) | (with_reducible refine bel_set ?_ (by (try dsimp only); omega) _) | (with_reducible refine bel_alloc ?_ _) | (with_reducible refine bel_drewN ?_ _) | (with_reducible refine bel_drew ?_))) hb0
  obtain ⟨hc0, hf0⟩ := bcell hb0
  have hz0 := hb0.size
  try simp only [World.size_alloc, World.size_setCell] at hz0
  have zw00 : w.heap.size < w0.heap.size := by omega
  have zw01 : w.heap.size + 1 < w0.heap.size := by omega
  go_wp2_with fail
  refine (C_laws_eqPattern _ _ _ _ (Ty.rd_below (by repeat' (first | (with_reducible exact Below.refl _ _) | (with_reducible assumption) | (with_reducible refine bel_set ?_ (by (try dsimp only); omega) _) | (with_reducible refine bel_alloc ?_ _) | (with_reducible refine bel_drewN ?_ _) | (with_reducible refine bel_drew ?_))) sag1) (Ty.rd_below (by repeat' (first | (with_reducible exact Below.refl _ _) | (with_reducible assumption) | (with_reducible refine bel_set ?_ (by (try dsimp only); omega) _) | (with_reducible refine bel_alloc ?_ _) | (with_reducible refine bel_drewN ?_ _) | (with_reducible refine bel_drew ?_))) tbg1)).mono ?_
  rintro e w1 ⟨rfl, hb1⟩
  have hw1 : Below w.heap.size w w1 := bel_trans (by repeat' (first | (with_reducible exact Below.refl _ _) | (with_reducible assumption) | (with_reducible refine bel_set ?_ (by (try dsimp only); omega) _) | (with_reducible refine bel_alloc ?_ _) | (with_reducible refine bel_drewN ?_ _) | (with_reducible refine bel_drew ?_))) hb1
  obtain ⟨hc1, hf1⟩ := bcell hb1
  have hz1 := hb1.size
  try simp only [World.size_alloc, World.size_setCell] at hz1
  have zw10 : w.heap.size < w1.heap.size := by omega
  have zw11 : w.heap.size + 1 < w1.heap.size := by omega
  go_wp2
  go_ret
  exact ⟨rfl, (by repeat' (first | (with_reducible exact Below.refl _ _) | (with_reducible assumption) | (with_reducible refine bel_set ?_ (by (try dsimp only); omega) _) | (with_reducible refine bel_alloc ?_ _) | (with_reducible refine bel_drewN ?_ _) | (with_reducible refine bel_drew ?_)))⟩

abbrev tRequester : Ty := (.pr .int (.pr .int .int))
theorem rd_Requester {w : World} {cs : List Value} {x : tRequester.D} (h : tRequester.rd w cs x) : cs = [.int .i64 x.1, .int .i64 x.2.1, .int .i64 x.2.2] ∧ (-9223372036854775808 ≤ x.1 ∧ x.1 ≤ 9223372036854775807) ∧ (-9223372036854775808 ≤ x.2.1 ∧ x.2.1 ≤ 9223372036854775807) ∧ (-9223372036854775808 ≤ x.2.2 ∧ x.2.2 ≤ 9223372036854775807) := by
  obtain ⟨c0, r0, rfl, g0, q0⟩ := h
  obtain ⟨c1, r1, rfl, g1, q1⟩ := q0
  have g2 := q1
  obtain ⟨rfl, b0⟩ := g0
  obtain ⟨rfl, b1⟩ := g1
  obtain ⟨rfl, b2⟩ := g2
  exact ⟨rfl, b0, b1, b2⟩

theorem ow_Requester {w : World} {cs : List Value} {x : tRequester.D} {fp : List Nat} (h : tRequester.ow w cs x fp) : cs = [.int .i64 x.1, .int .i64 x.2.1, .int .i64 x.2.2] := by
  obtain ⟨c0, r0, f0, t0, rfl, _, g0, q0⟩ := h
  obtain ⟨c1, r1, f1, t1, rfl, _, g1, q1⟩ := q0
  have g2 := q1
  obtain ⟨⟨rfl, b0⟩, _⟩ := g0
  obtain ⟨⟨rfl, b1⟩, _⟩ := g1
  obtain ⟨⟨rfl, b2⟩, _⟩ := g2
  rfl

abbrev tSeenNonce : Ty := (.pr (.sl .str) .int)
theorem rd_SeenNonce {w : World} {cs : List Value} {x : tSeenNonce.D} (h : tSeenNonce.rd w cs x) : ∃ (A0 : Option Addr) (c0 : Nat), cs = [.slice A0 (List.length x.1) c0, .int .i64 x.2] ∧ (Ty.rd w (.sl .str) [.slice A0 (List.length x.1) c0] x.1) ∧ (-9223372036854775808 ≤ x.2 ∧ x.2 ≤ 9223372036854775807) := by
  obtain ⟨c0, r0, rfl, g0, q0⟩ := h
  have g1 := q0
  obtain ⟨A0, c0, rfl⟩ := Ty.rd_slv g0
  obtain ⟨rfl, b1⟩ := g1
  exact ⟨A0, c0, rfl, g0, b1⟩

theorem ow_SeenNonce {w : World} {cs : List Value} {x : tSeenNonce.D} {fp : List Nat} (h : tSeenNonce.ow w cs x fp) : ∃ (A0 : Option Addr) (c0 : Nat), cs = [.slice A0 (List.length x.1) c0, .int .i64 x.2] := by
  obtain ⟨c0, r0, f0, t0, rfl, _, g0, q0⟩ := h
  have g1 := q0
  obtain ⟨A0, c0, rfl⟩ := Ty.ow_slv g0
  obtain ⟨⟨rfl, b1⟩, _⟩ := g1
  exact ⟨A0, c0, rfl⟩

abbrev tCacheEntry : Ty := (.pr tData .int)
theorem rd_CacheEntry {w : World} {cs : List Value} {x : tCacheEntry.D} (h : tCacheEntry.rd w cs x) : ∃ (A00 : Option Addr) (c00 : Nat) (A01 : Option Addr) (c01 : Nat) (A02 : Option Addr) (c02 : Nat), cs = [.slice A00 (List.length x.1.1) c00, .slice A01 (List.length x.1.2.1) c01, .slice A02 (List.length x.1.2.2.1) c02, .int .i64 x.1.2.2.2.1, .int .i64 x.1.2.2.2.2, .int .i64 x.2] ∧ (Ty.rd w tData [.slice A00 (List.length x.1.1) c00, .slice A01 (List.length x.1.2.1) c01, .slice A02 (List.length x.1.2.2.1) c02, .int .i64 x.1.2.2.2.1, .int .i64 x.1.2.2.2.2] x.1) ∧ (-9223372036854775808 ≤ x.2 ∧ x.2 ≤ 9223372036854775807) := by
  obtain ⟨c0, r0, rfl, g0, q0⟩ := h
  have g1 := q0
  have g0' := g0
  obtain ⟨A00, c00, A01, c01, A02, c02, rfl, _, _, _, _, _⟩ := rd_Data g0'
  obtain ⟨rfl, b1⟩ := g1
  exact ⟨A00, c00, A01, c01, A02, c02, rfl, g0, b1⟩

theorem ow_CacheEntry {w : World} {cs : List Value} {x : tCacheEntry.D} {fp : List Nat} (h : tCacheEntry.ow w cs x fp) : ∃ (A00 : Option Addr) (c00 : Nat) (A01 : Option Addr) (c01 : Nat) (A02 : Option Addr) (c02 : Nat), cs = [.slice A00 (List.length x.1.1) c00, .slice A01 (List.length x.1.2.1) c01, .slice A02 (List.length x.1.2.2.1) c02, .int .i64 x.1.2.2.2.1, .int .i64 x.1.2.2.2.2, .int .i64 x.2] := by
  obtain ⟨c0, r0, f0, t0, rfl, _, g0, q0⟩ := h
  have g1 := q0
  obtain ⟨A00, c00, A01, c01, A02, c02, rfl⟩ := ow_Data g0
  obtain ⟨⟨rfl, b1⟩, _⟩ := g1
  exact ⟨A00, c00, A01, c01, A02, c02, rfl⟩

abbrev tContentStore : Ty := (.pr .int (.sl tCacheEntry))
theorem rd_ContentStore {w : World} {cs : List Value} {x : tContentStore.D} (h : tContentStore.rd w cs x) : ∃ (A1 : Option Addr) (c1 : Nat), cs = [.int .i64 x.1, .slice A1 (List.length x.2) c1] ∧ (-9223372036854775808 ≤ x.1 ∧ x.1 ≤ 9223372036854775807) ∧ (Ty.rd w (.sl tCacheEntry) [.slice A1 (List.length x.2) c1] x.2) := by
  obtain ⟨c0, r0, rfl, g0, q0⟩ := h
  have g1 := q0
  obtain ⟨rfl, b0⟩ := g0
  obtain ⟨A1, c1, rfl⟩ := Ty.rd_slv g1
  exact ⟨A1, c1, rfl, b0, g1⟩

theorem ow_ContentStore {w : World} {cs : List Value} {x : tContentStore.D} {fp : List Nat} (h : tContentStore.ow w cs x fp) : ∃ (A1 : Option Addr) (c1 : Nat), cs = [.int .i64 x.1, .slice A1 (List.length x.2) c1] := by
  obtain ⟨c0, r0, f0, t0, rfl, _, g0, q0⟩ := h
  have g1 := q0
  obtain ⟨⟨rfl, b0⟩, _⟩ := g0
  obtain ⟨A1, c1, rfl⟩ := Ty.ow_slv g1
  exact ⟨A1, c1, rfl⟩

abbrev tPendingInterest : Ty := (.pr (.sl .str) (.pr (.sl tRequester) .int))
theorem rd_PendingInterest {w : World} {cs : List Value} {x : tPendingInterest.D} (h : tPendingInterest.rd w cs x) : ∃ (A0 : Option Addr) (c0 : Nat) (A1 : Option Addr) (c1 : Nat), cs = [.slice A0 (List.length x.1) c0, .slice A1 (List.length x.2.1) c1, .int .i64 x.2.2] ∧ (Ty.rd w (.sl .str) [.slice A0 (List.length x.1) c0] x.1) ∧ (Ty.rd w (.sl tRequester) [.slice A1 (List.length x.2.1) c1] x.2.1) ∧ (-9223372036854775808 ≤ x.2.2 ∧ x.2.2 ≤ 9223372036854775807) := by
  obtain ⟨c0, r0, rfl, g0, q0⟩ := h
  obtain ⟨c1, r1, rfl, g1, q1⟩ := q0
  have g2 := q1
  obtain ⟨A0, c0, rfl⟩ := Ty.rd_slv g0
  obtain ⟨A1, c1, rfl⟩ := Ty.rd_slv g1
  obtain ⟨rfl, b2⟩ := g2
  exact ⟨A0, c0, A1, c1, rfl, g0, g1, b2⟩

theorem ow_PendingInterest {w : World} {cs : List Value} {x : tPendingInterest.D} {fp : List Nat} (h : tPendingInterest.ow w cs x fp) : ∃ (A0 : Option Addr) (c0 : Nat) (A1 : Option Addr) (c1 : Nat), cs = [.slice A0 (List.length x.1) c0, .slice A1 (List.length x.2.1) c1, .int .i64 x.2.2] := by
  obtain ⟨c0, r0, f0, t0, rfl, _, g0, q0⟩ := h
  obtain ⟨c1, r1, f1, t1, rfl, _, g1, q1⟩ := q0
  have g2 := q1
  obtain ⟨A0, c0, rfl⟩ := Ty.ow_slv g0
  obtain ⟨A1, c1, rfl⟩ := Ty.ow_slv g1
  obtain ⟨⟨rfl, b2⟩, _⟩ := g2
  exact ⟨A0, c0, A1, c1, rfl⟩

abbrev tTrustPolicy : Ty := (.pr (.sl tKey) (.pr (.sl tRule) (.pr (.sl (.sl .str)) (.sl tData))))
theorem rd_TrustPolicy {w : World} {cs : List Value} {x : tTrustPolicy.D} (h : tTrustPolicy.rd w cs x) : ∃ (A0 : Option Addr) (c0 : Nat) (A1 : Option Addr) (c1 : Nat) (A2 : Option Addr) (c2 : Nat) (A3 : Option Addr) (c3 : Nat), cs = [.slice A0 (List.length x.1) c0, .slice A1 (List.length x.2.1) c1, .slice A2 (List.length x.2.2.1) c2, .slice A3 (List.length x.2.2.2) c3] ∧ (Ty.rd w (.sl tKey) [.slice A0 (List.length x.1) c0] x.1) ∧ (Ty.rd w (.sl tRule) [.slice A1 (List.length x.2.1) c1] x.2.1) ∧ (Ty.rd w (.sl (.sl .str)) [.slice A2 (List.length x.2.2.1) c2] x.2.2.1) ∧ (Ty.rd w (.sl tData) [.slice A3 (List.length x.2.2.2) c3] x.2.2.2) := by
  obtain ⟨c0, r0, rfl, g0, q0⟩ := h
  obtain ⟨c1, r1, rfl, g1, q1⟩ := q0
  obtain ⟨c2, r2, rfl, g2, q2⟩ := q1
  have g3 := q2
  obtain ⟨A0, c0, rfl⟩ := Ty.rd_slv g0
  obtain ⟨A1, c1, rfl⟩ := Ty.rd_slv g1
  obtain ⟨A2, c2, rfl⟩ := Ty.rd_slv g2
  obtain ⟨A3, c3, rfl⟩ := Ty.rd_slv g3
  exact ⟨A0, c0, A1, c1, A2, c2, A3, c3, rfl, g0, g1, g2, g3⟩

theorem ow_TrustPolicy {w : World} {cs : List Value} {x : tTrustPolicy.D} {fp : List Nat} (h : tTrustPolicy.ow w cs x fp) : ∃ (A0 : Option Addr) (c0 : Nat) (A1 : Option Addr) (c1 : Nat) (A2 : Option Addr) (c2 : Nat) (A3 : Option Addr) (c3 : Nat), cs = [.slice A0 (List.length x.1) c0, .slice A1 (List.length x.2.1) c1, .slice A2 (List.length x.2.2.1) c2, .slice A3 (List.length x.2.2.2) c3] := by
  obtain ⟨c0, r0, f0, t0, rfl, _, g0, q0⟩ := h
  obtain ⟨c1, r1, f1, t1, rfl, _, g1, q1⟩ := q0
  obtain ⟨c2, r2, f2, t2, rfl, _, g2, q2⟩ := q1
  have g3 := q2
  obtain ⟨A0, c0, rfl⟩ := Ty.ow_slv g0
  obtain ⟨A1, c1, rfl⟩ := Ty.ow_slv g1
  obtain ⟨A2, c2, rfl⟩ := Ty.ow_slv g2
  obtain ⟨A3, c3, rfl⟩ := Ty.ow_slv g3
  exact ⟨A0, c0, A1, c1, A2, c2, A3, c3, rfl⟩

end Go.Proofs.YtpjnidfdkggpfaaDoor
