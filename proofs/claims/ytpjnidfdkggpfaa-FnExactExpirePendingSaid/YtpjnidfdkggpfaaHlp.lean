/- The helper functions of the statements: sizes, copies, comparisons, marks, for each type. Printed by a program. -/
import Derived.Test.YtpjnidfdkggpfaaStr
import Derived.StillTailTactics
namespace Go.Proofs.Ytpjnidfdkggpfaa
open Go.RowKit
set_option linter.unusedVariables false
set_option linter.unusedSimpArgs false

set_option maxHeartbeats 400000 in
theorem C_laws_szName (w : World) (cs : List Value) (x : Ty.D (.sl .str)) (left : Int) (h : Ty.rd w (.sl .str) cs x) (h0 : 0 ≤ left) (h1 : left ≤ 1048576) :
    Calls Try.prog 34 #[.agg cs.toArray, .int .i64 left] w (RetSz w left (Ty.bulk (.sl .str) x)) := by
  obtain ⟨Aa0, ca0, rfl⟩ := Ty.rd_slv h
  have sag0 := h
  go_enter Try.func34, Try.ntmps34
  go_wp2_with fail
  refine (C_laws_szStringS _ _ _ left (Ty.rd_below (by repeat' (first | (with_reducible exact Below.refl _ _) | (with_reducible assumption) | (with_reducible refine bel_set ?_ (by (try dsimp only); omega) _) | (with_reducible refine bel_alloc ?_ _) | (with_reducible refine bel_drewN ?_ _) | (with_reducible refine bel_drew ?_))) sag0) h0 h1).mono ?_
  rintro e w0 ⟨r0, rfl, hr0, hb0⟩
  have hw0 : Below w.heap.size w w0 := bel_trans (by repeat' (first | (with_reducible exact Below.refl _ _) | (with_reducible assumption) | (with_reducible refine bel_set ?_ (by (try dsimp only); omega) _) | (with_reducible refine bel_alloc ?_ _) | (with_reducible refine bel_drewN ?_ _) | (with_reducible refine bel_drew ?_))) hb0
  obtain ⟨hc0, hf0⟩ := bcell hb0
  have hz0 := hb0.size
  try simp only [World.size_alloc] at hz0
  have z00 : w.heap.size < w0.heap.size := by omega
  rcases hr0 with rfl | ⟨p0, q0⟩
  · go_wp2
    go_ret
    exact ⟨-1, rfl, .inl rfl, hw0⟩
  go_wp2
  go_ret
  exact ⟨r0, rfl, .inr ⟨p0, by show r0 + ((Ty.bulk (.sl .str) x : Nat) : Int) ≤ left; omega⟩, hw0⟩

set_option maxHeartbeats 1000000 in
theorem C_laws_toName (w : World) (cs : List Value) (x : Ty.D (.sl .str)) (h : Ty.rd w (.sl .str) cs x) (h1 : Ty.bulk (.sl .str) x ≤ 1048576) :
    Calls Try.prog 35 #[.agg cs.toArray] w (RetAgg w (.sl .str) x) := by
  obtain ⟨Aa0, ca0, rfl⟩ := Ty.rd_slv h
  have sag0 := h
  have h1' : Ty.bulk (.sl .str) x ≤ 1048576 := h1
  go_enter Try.func35, Try.ntmps35
  go_wp2_with fail
  refine (C_laws_toStringS _ _ _ (Ty.rd_below (by repeat' (first | (with_reducible exact Below.refl _ _) | (with_reducible assumption) | (with_reducible refine bel_set ?_ (by (try dsimp only); omega) _) | (with_reducible refine bel_alloc ?_ _) | (with_reducible refine bel_drewN ?_ _) | (with_reducible refine bel_drew ?_))) sag0) (by omega)).mono ?_
  rintro e w0 ⟨A0, c0, fp0, rfl, how0, hfr0, hb0⟩
  have hw0 : Below w.heap.size w w0 := bel_trans (by repeat' (first | (with_reducible exact Below.refl _ _) | (with_reducible assumption) | (with_reducible refine bel_set ?_ (by (try dsimp only); omega) _) | (with_reducible refine bel_alloc ?_ _) | (with_reducible refine bel_drewN ?_ _) | (with_reducible refine bel_drew ?_))) hb0
  obtain ⟨hc0, hf0⟩ := bcell hb0
  have hz0 := hb0.size
  try simp only [World.size_alloc, World.size_setCell] at hz0
  have zw00 : w.heap.size < w0.heap.size := by omega
  have zw01 : w.heap.size + 1 < w0.heap.size := by omega
  have zw02 : w.heap.size + 1 + 1 < w0.heap.size := by omega
  go_wp2
  refine bodyPost_ret (v := .agg #[.slice A0 (List.length x) c0]) (by simp [results, Try.results35, go_sem, hc0, hf0, zw00, zw01, zw02]) rfl ?_
  exact ⟨_, fp0, rfl, Ty.ow_keep (by intro b hb'; have hb'' := (hfr0).2 b hb'; (try simp only [World.size_alloc, World.size_setCell, size_drewN, World.size_drew] at hb''); repeat (first | (with_reducible rfl) | (rw [Below.heap_setCell _ _ _ _ (by (try dsimp only); omega)]) | (rw [Below.heap_alloc _ _ _ (by simp only [World.size_alloc, World.size_setCell]; omega)]))) how0, (hfr0.mono (by (try simp only [World.size_alloc, World.size_setCell, size_drewN, World.size_drew]); omega) (by (try simp only [World.size_alloc, World.size_setCell, size_drewN, World.size_drew]); omega)), bel_trans (by repeat' (first | (with_reducible exact Below.refl _ _) | (with_reducible assumption) | (with_reducible refine bel_set ?_ (by (try dsimp only); omega) _) | (with_reducible refine bel_alloc ?_ _) | (with_reducible refine bel_drewN ?_ _) | (with_reducible refine bel_drew ?_))) (Below.refl _ _)⟩

set_option maxHeartbeats 1000000 in
theorem C_laws_eqName (w : World) (cs1 cs2 : List Value) (x : Ty.D (.sl .str)) (h1 : Ty.rd w (.sl .str) cs1 x) (h2 : Ty.rd w (.sl .str) cs2 x) :
    Calls Try.prog 38 #[.agg cs1.toArray, .agg cs2.toArray] w (RetB w true) := by
  obtain ⟨Aa0, ca0, rfl⟩ := Ty.rd_slv h1
  have sag0 := h1
  obtain ⟨Ab0, cb0, rfl⟩ := Ty.rd_slv h2
  have tbg0 := h2
  go_enter Try.func38, Try.ntmps38
  go_wp2_with fail
  refine (C_laws_eqStringS _ _ _ _ (Ty.rd_below (by repeat' (first | (with_reducible exact Below.refl _ _) | (with_reducible assumption) | (with_reducible refine bel_set ?_ (by (try dsimp only); omega) _) | (with_reducible refine bel_alloc ?_ _) | (with_reducible refine bel_drewN ?_ _) | (with_reducible refine bel_drew ?_))) sag0) (Ty.rd_below (by repeat' (first | (with_reducible exact Below.refl _ _) | (with_reducible assumption) | (with_reducible refine bel_set ?_ (by (try dsimp only); omega) _) | (with_reducible refine bel_alloc ?_ _) | (with_reducible refine bel_drewN ?_ _) | (with_reducible refine bel_drew ?_))) tbg0)).mono ?_
  rintro e w0 ⟨rfl, hb0⟩
  have hw0 : Below w.heap.size w w0 := bel_trans (by repeat' (first | (with_reducible exact Below.refl _ _) | (with_reducible assumption) | (with_reducible refine bel_set ?_ (by (try dsimp only); omega) _) | (with_reducible refine bel_alloc ?_ _) | (with_reducible refine bel_drewN ?_ _) | (with_reducible refine bel_drew ?_))) hb0
  obtain ⟨hc0, hf0⟩ := bcell hb0
  have hz0 := hb0.size
  try simp only [World.size_alloc, World.size_setCell] at hz0
  have zw00 : w.heap.size < w0.heap.size := by omega
  have zw01 : w.heap.size + 1 < w0.heap.size := by omega
  go_wp2
  go_ret
  exact ⟨rfl, (by repeat' (first | (with_reducible exact Below.refl _ _) | (with_reducible assumption) | (with_reducible refine bel_set ?_ (by (try dsimp only); omega) _) | (with_reducible refine bel_alloc ?_ _) | (with_reducible refine bel_drewN ?_ _) | (with_reducible refine bel_drew ?_)))⟩

abbrev tInterest : Ty := (.pr (.sl .str) (.pr .int (.pr .int .int)))
theorem rd_Interest {w : World} {cs : List Value} {x : tInterest.D} (h : tInterest.rd w cs x) : ∃ (A0 : Option Addr) (c0 : Nat), cs = [.slice A0 (List.length x.1) c0, .int .i64 x.2.1, .int .i64 x.2.2.1, .int .i64 x.2.2.2] ∧ (Ty.rd w (.sl .str) [.slice A0 (List.length x.1) c0] x.1) ∧ (-9223372036854775808 ≤ x.2.1 ∧ x.2.1 ≤ 9223372036854775807) ∧ (-9223372036854775808 ≤ x.2.2.1 ∧ x.2.2.1 ≤ 9223372036854775807) ∧ (-9223372036854775808 ≤ x.2.2.2 ∧ x.2.2.2 ≤ 9223372036854775807) := by
  obtain ⟨c0, r0, rfl, g0, q0⟩ := h
  obtain ⟨c1, r1, rfl, g1, q1⟩ := q0
  obtain ⟨c2, r2, rfl, g2, q2⟩ := q1
  have g3 := q2
  obtain ⟨A0, c0, rfl⟩ := Ty.rd_slv g0
  obtain ⟨rfl, b1⟩ := g1
  obtain ⟨rfl, b2⟩ := g2
  obtain ⟨rfl, b3⟩ := g3
  exact ⟨A0, c0, rfl, g0, b1, b2, b3⟩

theorem ow_Interest {w : World} {cs : List Value} {x : tInterest.D} {fp : List Nat} (h : tInterest.ow w cs x fp) : ∃ (A0 : Option Addr) (c0 : Nat), cs = [.slice A0 (List.length x.1) c0, .int .i64 x.2.1, .int .i64 x.2.2.1, .int .i64 x.2.2.2] := by
  obtain ⟨c0, r0, f0, t0, rfl, _, g0, q0⟩ := h
  obtain ⟨c1, r1, f1, t1, rfl, _, g1, q1⟩ := q0
  obtain ⟨c2, r2, f2, t2, rfl, _, g2, q2⟩ := q1
  have g3 := q2
  obtain ⟨A0, c0, rfl⟩ := Ty.ow_slv g0
  obtain ⟨⟨rfl, b1⟩, _⟩ := g1
  obtain ⟨⟨rfl, b2⟩, _⟩ := g2
  obtain ⟨⟨rfl, b3⟩, _⟩ := g3
  exact ⟨A0, c0, rfl⟩

abbrev tData : Ty := (.pr (.sl .str) (.pr (.sl .byte) (.pr (.sl .str) (.pr .int .int))))
theorem rd_Data {w : World} {cs : List Value} {x : tData.D} (h : tData.rd w cs x) : ∃ (A0 : Option Addr) (c0 : Nat) (A1 : Option Addr) (c1 : Nat) (A2 : Option Addr) (c2 : Nat), cs = [.slice A0 (List.length x.1) c0, .slice A1 (List.length x.2.1) c1, .slice A2 (List.length x.2.2.1) c2, .int .i64 x.2.2.2.1, .int .i64 x.2.2.2.2] ∧ (Ty.rd w (.sl .str) [.slice A0 (List.length x.1) c0] x.1) ∧ (Ty.rd w (.sl .byte) [.slice A1 (List.length x.2.1) c1] x.2.1) ∧ (Ty.rd w (.sl .str) [.slice A2 (List.length x.2.2.1) c2] x.2.2.1) ∧ (-9223372036854775808 ≤ x.2.2.2.1 ∧ x.2.2.2.1 ≤ 9223372036854775807) ∧ (-9223372036854775808 ≤ x.2.2.2.2 ∧ x.2.2.2.2 ≤ 9223372036854775807) := by
  obtain ⟨c0, r0, rfl, g0, q0⟩ := h
  obtain ⟨c1, r1, rfl, g1, q1⟩ := q0
  obtain ⟨c2, r2, rfl, g2, q2⟩ := q1
  obtain ⟨c3, r3, rfl, g3, q3⟩ := q2
  have g4 := q3
  obtain ⟨A0, c0, rfl⟩ := Ty.rd_slv g0
  obtain ⟨A1, c1, rfl⟩ := Ty.rd_slv g1
  obtain ⟨A2, c2, rfl⟩ := Ty.rd_slv g2
  obtain ⟨rfl, b3⟩ := g3
  obtain ⟨rfl, b4⟩ := g4
  exact ⟨A0, c0, A1, c1, A2, c2, rfl, g0, g1, g2, b3, b4⟩

theorem ow_Data {w : World} {cs : List Value} {x : tData.D} {fp : List Nat} (h : tData.ow w cs x fp) : ∃ (A0 : Option Addr) (c0 : Nat) (A1 : Option Addr) (c1 : Nat) (A2 : Option Addr) (c2 : Nat), cs = [.slice A0 (List.length x.1) c0, .slice A1 (List.length x.2.1) c1, .slice A2 (List.length x.2.2.1) c2, .int .i64 x.2.2.2.1, .int .i64 x.2.2.2.2] := by
  obtain ⟨c0, r0, f0, t0, rfl, _, g0, q0⟩ := h
  obtain ⟨c1, r1, f1, t1, rfl, _, g1, q1⟩ := q0
  obtain ⟨c2, r2, f2, t2, rfl, _, g2, q2⟩ := q1
  obtain ⟨c3, r3, f3, t3, rfl, _, g3, q3⟩ := q2
  have g4 := q3
  obtain ⟨A0, c0, rfl⟩ := Ty.ow_slv g0
  obtain ⟨A1, c1, rfl⟩ := Ty.ow_slv g1
  obtain ⟨A2, c2, rfl⟩ := Ty.ow_slv g2
  obtain ⟨⟨rfl, b3⟩, _⟩ := g3
  obtain ⟨⟨rfl, b4⟩, _⟩ := g4
  exact ⟨A0, c0, A1, c1, A2, c2, rfl⟩

abbrev tKey : Ty := (.pr (.sl .str) .int)
theorem rd_Key {w : World} {cs : List Value} {x : tKey.D} (h : tKey.rd w cs x) : ∃ (A0 : Option Addr) (c0 : Nat), cs = [.slice A0 (List.length x.1) c0, .int .i64 x.2] ∧ (Ty.rd w (.sl .str) [.slice A0 (List.length x.1) c0] x.1) ∧ (-9223372036854775808 ≤ x.2 ∧ x.2 ≤ 9223372036854775807) := by
  obtain ⟨c0, r0, rfl, g0, q0⟩ := h
  have g1 := q0
  obtain ⟨A0, c0, rfl⟩ := Ty.rd_slv g0
  obtain ⟨rfl, b1⟩ := g1
  exact ⟨A0, c0, rfl, g0, b1⟩

theorem ow_Key {w : World} {cs : List Value} {x : tKey.D} {fp : List Nat} (h : tKey.ow w cs x fp) : ∃ (A0 : Option Addr) (c0 : Nat), cs = [.slice A0 (List.length x.1) c0, .int .i64 x.2] := by
  obtain ⟨c0, r0, f0, t0, rfl, _, g0, q0⟩ := h
  have g1 := q0
  obtain ⟨A0, c0, rfl⟩ := Ty.ow_slv g0
  obtain ⟨⟨rfl, b1⟩, _⟩ := g1
  exact ⟨A0, c0, rfl⟩

set_option maxHeartbeats 400000 in
theorem C_laws_szKey (w : World) (cs : List Value) (x : Ty.D tKey) (left : Int) (h : Ty.rd w tKey cs x) (h0 : 0 ≤ left) (h1 : left ≤ 1048576) :
    Calls Try.prog 17 #[.agg cs.toArray, .int .i64 left] w (RetSz w left (Ty.bulk tKey x)) := by
  obtain ⟨Aa0, ca0, rfl, sag0, sag1⟩ := rd_Key h
  go_enter Try.func17, Try.ntmps17
  go_wp2_with fail
  refine (C_laws_szName _ _ _ left (Ty.rd_below (by repeat' (first | (with_reducible exact Below.refl _ _) | (with_reducible assumption) | (with_reducible refine bel_set ?_ (by (try dsimp only); omega) _) | (with_reducible refine bel_alloc ?_ _) | (with_reducible refine bel_drewN ?_ _) | (with_reducible refine bel_drew ?_))) sag0) h0 h1).mono ?_
  rintro e w0 ⟨r0, rfl, hr0, hb0⟩
  have hw0 : Below w.heap.size w w0 := bel_trans (by repeat' (first | (with_reducible exact Below.refl _ _) | (with_reducible assumption) | (with_reducible refine bel_set ?_ (by (try dsimp only); omega) _) | (with_reducible refine bel_alloc ?_ _) | (with_reducible refine bel_drewN ?_ _) | (with_reducible refine bel_drew ?_))) hb0
  obtain ⟨hc0, hf0⟩ := bcell hb0
  have hz0 := hb0.size
  try simp only [World.size_alloc] at hz0
  have z00 : w.heap.size < w0.heap.size := by omega
  rcases hr0 with rfl | ⟨p0, q0⟩
  · go_wp2
    go_ret
    exact ⟨-1, rfl, .inl rfl, hw0⟩
  go_wp2
  go_ret
  exact ⟨r0, rfl, .inr ⟨p0, by show r0 + (((Ty.bulk (.sl .str) x.1 + 0) : Nat) : Int) ≤ left; omega⟩, hw0⟩

set_option maxHeartbeats 1000000 in
theorem C_laws_toKey (w : World) (cs : List Value) (x : Ty.D tKey) (h : Ty.rd w tKey cs x) (h1 : Ty.bulk tKey x ≤ 1048576) :
    Calls Try.prog 19 #[.agg cs.toArray] w (RetAgg w tKey x) := by
  obtain ⟨Aa0, ca0, rfl, sag0, sag1⟩ := rd_Key h
  have h1' : (Ty.bulk (.sl .str) x.1 + 0) ≤ 1048576 := h1
  go_enter Try.func19, Try.ntmps19
  go_wp2_with fail
  refine (C_laws_toName _ _ _ (Ty.rd_below (by repeat' (first | (with_reducible exact Below.refl _ _) | (with_reducible assumption) | (with_reducible refine bel_set ?_ (by (try dsimp only); omega) _) | (with_reducible refine bel_alloc ?_ _) | (with_reducible refine bel_drewN ?_ _) | (with_reducible refine bel_drew ?_))) sag0) (by omega)).mono ?_
  rintro e w0 ⟨cs0, fp0, rfl, how0, hfr0, hb0⟩
  obtain ⟨A0, c0, rfl⟩ := Ty.ow_slv how0
  have hw0 : Below w.heap.size w w0 := bel_trans (by repeat' (first | (with_reducible exact Below.refl _ _) | (with_reducible assumption) | (with_reducible refine bel_set ?_ (by (try dsimp only); omega) _) | (with_reducible refine bel_alloc ?_ _) | (with_reducible refine bel_drewN ?_ _) | (with_reducible refine bel_drew ?_))) hb0
  obtain ⟨hc0, hf0⟩ := bcell hb0
  have hz0 := hb0.size
  try simp only [World.size_alloc, World.size_setCell] at hz0
  have zw00 : w.heap.size < w0.heap.size := by omega
  have zw01 : w.heap.size + 1 < w0.heap.size := by omega
  have zw02 : w.heap.size + 1 + 1 < w0.heap.size := by omega
  go_wp2
  refine bodyPost_ret (v := .agg #[.slice A0 (List.length x.1) c0, .int .i64 x.2]) (by simp [results, Try.results19, go_sem, hc0, hf0, zw00, zw01, zw02]) rfl ?_
  exact ⟨_, (fp0 ++ []), rfl, ⟨[.slice A0 (List.length x.1) c0], [.int .i64 x.2], fp0, [], rfl, rfl, Ty.ow_keep (by intro b hb'; have hb'' := (hfr0).2 b hb'; (try simp only [World.size_alloc, World.size_setCell, size_drewN, World.size_drew] at hb''); repeat (first | (with_reducible rfl) | (rw [Below.heap_setCell _ _ _ _ (by (try dsimp only); omega)]) | (rw [Below.heap_alloc _ _ _ (by simp only [World.size_alloc, World.size_setCell]; omega)]))) how0, ⟨⟨rfl, sag1⟩, rfl⟩⟩, (FrI.app (hfr0.mono (by (try simp only [World.size_alloc, World.size_setCell, size_drewN, World.size_drew]); omega) (Nat.le_refl _)) (FrI.nil w0.heap.size _) (by (try simp only [World.size_alloc, World.size_setCell, size_drewN, World.size_drew]); omega) (by (try simp only [World.size_alloc, World.size_setCell, size_drewN, World.size_drew]); omega) (by (try simp only [World.size_alloc, World.size_setCell, size_drewN, World.size_drew]); omega)), bel_trans (by repeat' (first | (with_reducible exact Below.refl _ _) | (with_reducible assumption) | (with_reducible refine bel_set ?_ (by (try dsimp only); omega) _) | (with_reducible refine bel_alloc ?_ _) | (with_reducible refine bel_drewN ?_ _) | (with_reducible refine bel_drew ?_))) (Below.refl _ _)⟩

set_option maxHeartbeats 1000000 in
theorem C_laws_eqKey (w : World) (cs1 cs2 : List Value) (x : Ty.D tKey) (h1 : Ty.rd w tKey cs1 x) (h2 : Ty.rd w tKey cs2 x) :
    Calls Try.prog 22 #[.agg cs1.toArray, .agg cs2.toArray] w (RetB w true) := by
  obtain ⟨Aa0, ca0, rfl, sag0, sag1⟩ := rd_Key h1
  obtain ⟨Ab0, cb0, rfl, tbg0, tbg1⟩ := rd_Key h2
  go_enter Try.func22, Try.ntmps22
  go_wp2_with fail
  refine (C_laws_eqName _ _ _ _ (Ty.rd_below (by repeat' (first | (with_reducible exact Below.refl _ _) | (with_reducible assumption) | (with_reducible refine bel_set ?_ (by (try dsimp only); omega) _) | (with_reducible refine bel_alloc ?_ _) | (with_reducible refine bel_drewN ?_ _) | (with_reducible refine bel_drew ?_))) sag0) (Ty.rd_below (by repeat' (first | (with_reducible exact Below.refl _ _) | (with_reducible assumption) | (with_reducible refine bel_set ?_ (by (try dsimp only); omega) _) | (with_reducible refine bel_alloc ?_ _) | (with_reducible refine bel_drewN ?_ _) | (with_reducible refine bel_drew ?_))) tbg0)).mono ?_
  rintro e w0 ⟨rfl, hb0⟩
  have hw0 : Below w.heap.size w w0 := bel_trans (by repeat' (first | (with_reducible exact Below.refl _ _) | (with_reducible assumption) | (with_reducible refine bel_set ?_ (by (try dsimp only); omega) _) | (with_reducible refine bel_alloc ?_ _) | (with_reducible refine bel_drewN ?_ _) | (with_reducible refine bel_drew ?_))) hb0
  obtain ⟨hc0, hf0⟩ := bcell hb0
  have hz0 := hb0.size
  try simp only [World.size_alloc, World.size_setCell] at hz0
  have zw00 : w.heap.size < w0.heap.size := by omega
  have zw01 : w.heap.size + 1 < w0.heap.size := by omega
  go_wp2
  go_ret
  exact ⟨rfl, (by repeat' (first | (with_reducible exact Below.refl _ _) | (with_reducible assumption) | (with_reducible refine bel_set ?_ (by (try dsimp only); omega) _) | (with_reducible refine bel_alloc ?_ _) | (with_reducible refine bel_drewN ?_ _) | (with_reducible refine bel_drew ?_)))⟩

set_option maxHeartbeats 400000 in
theorem C_laws_szKeyS (w : World) (v : Value) (x : List (Ty.D tKey)) (left : Int) (h : (Ty.sl tKey).rd w [v] x) (h0 : 0 ≤ left) (h1 : left ≤ 1048576) :
    Calls Try.prog 5 #[v, .int .i64 left] w (RetSz w left (Ty.bulk (.sl tKey) x)) := by
  obtain ⟨A, c, rfl, hc, hm, hn⟩ := Ty.rd_sl h
  unfold maxLen at hm
  go_enter Try.func5, Try.ntmps5
  go_wp2
  · go_ret
    exact ⟨-1, rfl, .inl rfl, Below.refl _ _⟩
  · go_loopw [1, 5] (fun l i wr => ∃ (k : Nat) (r : Int), k ≤ x.length ∧ l = .int .i64 r ∧ i = .int .i64 k ∧ 0 ≤ r ∧ r + (x.length + ((x.take k).map (Ty.bulk tKey)).sum : Nat) ≤ left ∧ Below w.heap.size w wr) (fun _ i _ => x.length - (intOf i).toNat)
    case atStart => exact ⟨0, _, by omega, rfl, rfl, by omega, by simp, Below.refl _ _⟩
    case round =>
      obtain ⟨k, r, hk, rfl, rfl, hr0, hr, hb⟩ := hrel
      by_cases hlt : k < x.length
      · obtain ⟨b, o, ds, rfl, hl, hcell, hrd⟩ := Ty.rd_at (Ty.rd_below hb h) hlt
        have HS := Lib.hid (sum_take_succ (Ty.bulk tKey) x hlt)
        obtain ⟨Aa0, ca0, rfl, sag0, sag1⟩ := rd_Key hrd
        have e0 : wr.cell? ⟨b, o + k * 2, none⟩ = some (.slice Aa0 (List.length x[k].1) ca0) := by simpa [Ty.sz] using hcell 0 (by decide)
        have e1 : wr.cell? ⟨b, o + k * 2 + 1, none⟩ = some (.int .i64 x[k].2) := by simpa [Ty.sz] using hcell 1 (by decide)
        clear hcell hl
        go_wp2_with fail
        refine (C_laws_szKey _ _ _ r hrd hr0 (by omega)).mono ?_
        rintro e w1 ⟨r1, rfl, hr1, hb1⟩
        have hw1 : Below w.heap.size w w1 := bel_trans hb hb1
        rcases hr1 with rfl | ⟨p1, q1⟩
        · go_wp2
          go_ret
          exact ⟨-1, rfl, .inl rfl, hw1⟩
        · go_wp2
          go_roundw
          case rel => exact ⟨k + 1, r1, by omega, rfl, by go_num, p1, by rw [HS.out]; omega, hw1⟩
          case measure => simp [intOf]; omega
      · go_wp2
        go_ret
        rw [sum_take_all _ _ (by omega)] at hr
        exact ⟨r, rfl, .inr ⟨hr0, hr⟩, hb⟩

theorem info_Key : (Try.prog.info? 46).map (fun i => (i.zero, i.size, i.bytes)) = some (some (.agg #[.slice none 0 0, .int .i64 0]), 2, 32) := by kernel_rfl
set_option maxHeartbeats 1000000 in
theorem C_laws_toKeyS (w : World) (v : Value) (x : List (Ty.D tKey)) (h : (Ty.sl tKey).rd w [v] x) (hbk : Ty.bulk (.sl tKey) x ≤ 1048576) :
    Calls Try.prog 7 #[v] w (RetSl w tKey x) := by
  obtain ⟨A, c, rfl, hc, hm, hn⟩ := Ty.rd_sl h
  unfold maxLen at hm
  have h1 := Ty.bulk_len hbk
  have hmk := run_make_eq 25 46 info_Key Try.underlying25 x.length (by omega) (by omega)
  go_enter Try.func7, Try.ntmps7
  go_wp2_with fail
  clear hmk
  go_loopw [4] (fun i wr => ∃ (k : Nat), k ≤ x.length ∧ i = .int .i64 k ∧ ToInv tKey w.heap.size 46 x k wr ∧ Below w.heap.size w wr) (fun i _ => x.length - (intOf i).toNat)
  case atStart => exact ⟨0, by omega, rfl, ToInv.zero (Blk.new _ _ _) (by simp [size_madeCells, Ty.sz]), (Below.refl _ _).alloc (Nat.le_refl _) _⟩
  case round =>
    obtain ⟨k, hk, rfl, hinv, hb⟩ := hrel
    by_cases hlt : k < x.length
    · obtain ⟨b, o, ds, rfl, hl, hcell, hrd⟩ := Ty.rd_at (Ty.rd_below hb h) hlt
      obtain ⟨Aa0, ca0, rfl, sag0, sag1⟩ := rd_Key hrd
      have e0 : wr.cell? ⟨b, o + k * 2, none⟩ = some (.slice Aa0 (List.length x[k].1) ca0) := by simpa [Ty.sz] using hcell 0 (by decide)
      have e1 : wr.cell? ⟨b, o + k * 2 + 1, none⟩ = some (.int .i64 x[k].2) := by simpa [Ty.sz] using hcell 1 (by decide)
      clear hcell hl
      go_wp2_with fail
      refine (C_laws_toKey _ _ _ hrd (Ty.bulk_at hbk hlt)).mono ?_
      rintro e w1 ⟨cs1, fp1, rfl, how1, hfr1, hb1⟩
      obtain ⟨A0, c0, rfl⟩ := ow_Key how1
      have hw1 : Below w.heap.size w w1 := bel_trans hb hb1
      obtain ⟨cur, hblk, hsz⟩ := hinv.blk
      have hg := hblk.lt
      have hblk1 := hblk.below hb1 hg
      have hsz' : cur.size = x.length * 2 := hsz
      obtain ⟨old0, o0⟩ : ∃ v, w1.cell? ⟨w.heap.size, k * 2, none⟩ = some v := ⟨_, (hblk1.cell _).trans (Array.getElem?_eq_getElem (by omega))⟩
      have f0 : w1.frozen? ⟨w.heap.size, k * 2, none⟩ = false := hblk1.frozen _
      obtain ⟨old1, o1⟩ : ∃ v, w1.cell? ⟨w.heap.size, k * 2 + 1, none⟩ = some v := ⟨_, (hblk1.cell _).trans (Array.getElem?_eq_getElem (by omega))⟩
      have f1 : w1.frozen? ⟨w.heap.size, k * 2 + 1, none⟩ = false := hblk1.frozen _
      have HSZ := Lib.hid hsz
      clear hsz hsz' hblk
      go_wp2
      go_roundw
      case rel =>
        refine ⟨k + 1, by omega, by go_num, hinv.step hlt hb1 how1 hfr1 (fun b' hb' => ?_) (by simp) (fun cur' hb2 => ?_), (by repeat' (first | (with_reducible exact Below.refl _ _) | (with_reducible assumption) | (with_reducible refine bel_set ?_ (by (try dsimp only); omega) _) | (with_reducible refine bel_alloc ?_ _) | (with_reducible refine bel_drewN ?_ _) | (with_reducible refine bel_drew ?_)))⟩
        · repeat (rw [Below.heap_setCell _ _ _ _ hb'])
        · exact ((hb2.set_ (k * 2) _).set_ (k * 2 + 1) _)
      case measure => simp [intOf]; omega
    · go_wp2
      go_ret
      obtain rfl : k = x.length := by omega
      obtain ⟨fp, q1, q2⟩ := hinv.done (w := w) (c := x.length) (Nat.le_refl _) (Nat.le_refl _) (by unfold maxLen; omega) hn
      exact ⟨_, _, fp, rfl, q1, q2, hb⟩

set_option maxHeartbeats 1000000 in
theorem C_laws_eqKeyS (w : World) (v1 v2 : Value) (x : List (Ty.D tKey)) (h1 : (Ty.sl tKey).rd w [v1] x) (h2 : (Ty.sl tKey).rd w [v2] x) :
    Calls Try.prog 9 #[v1, v2] w (RetB w true) := by
  obtain ⟨A1, c1, rfl, hc1, hm1, hn1⟩ := Ty.rd_sl h1
  obtain ⟨A2, c2, rfl, hc2, hm2, hn2⟩ := Ty.rd_sl h2
  have hne : ((x.length : Int) != x.length) = false := by simp
  go_enter Try.func9, Try.ntmps9
  go_wp2
  go_loopw [5] (fun i wr => ∃ k : Nat, k ≤ x.length ∧ i = .int .i64 k ∧ Below w.heap.size w wr) (fun i _ => x.length - (intOf i).toNat)
  case atStart => exact ⟨0, by omega, rfl, Below.refl _ _⟩
  case round =>
    obtain ⟨k, hk, rfl, hb⟩ := hrel
    by_cases hlt : k < x.length
    · obtain ⟨b1, o1, ds1, rfl, hl1, hcell1, hrd1⟩ := Ty.rd_at (Ty.rd_below hb h1) hlt
      obtain ⟨Aa0, ca0, rfl, sag0, sag1⟩ := rd_Key hrd1
      have e0 : wr.cell? ⟨b1, o1 + k * 2, none⟩ = some (.slice Aa0 (List.length x[k].1) ca0) := by simpa [Ty.sz] using hcell1 0 (by decide)
      have e1 : wr.cell? ⟨b1, o1 + k * 2 + 1, none⟩ = some (.int .i64 x[k].2) := by simpa [Ty.sz] using hcell1 1 (by decide)
      clear hcell1 hl1
      obtain ⟨b2, o2, ds2, rfl, hl2, hcell2, hrd2⟩ := Ty.rd_at (Ty.rd_below hb h2) hlt
      obtain ⟨Ab0, cb0, rfl, tbg0, tbg1⟩ := rd_Key hrd2
      have d0 : wr.cell? ⟨b2, o2 + k * 2, none⟩ = some (.slice Ab0 (List.length x[k].1) cb0) := by simpa [Ty.sz] using hcell2 0 (by decide)
      have d1 : wr.cell? ⟨b2, o2 + k * 2 + 1, none⟩ = some (.int .i64 x[k].2) := by simpa [Ty.sz] using hcell2 1 (by decide)
      clear hcell2 hl2
      go_wp2_with fail
      set_option maxRecDepth 100000 in go_still_tail 8, (by kernel_rfl)
      go_wp2_with fail
      refine (C_laws_eqKey _ _ _ _ (Ty.rd_below (by repeat' (first | (with_reducible exact Below.refl _ _) | (with_reducible assumption) | (with_reducible refine bel_set ?_ (by (try dsimp only); omega) _) | (with_reducible refine bel_alloc ?_ _) | (with_reducible refine bel_drewN ?_ _) | (with_reducible refine bel_drew ?_))) hrd1) (Ty.rd_below (by repeat' (first | (with_reducible exact Below.refl _ _) | (with_reducible assumption) | (with_reducible refine bel_set ?_ (by (try dsimp only); omega) _) | (with_reducible refine bel_alloc ?_ _) | (with_reducible refine bel_drewN ?_ _) | (with_reducible refine bel_drew ?_))) hrd2)).mono ?_
      rintro e w1 ⟨rfl, hb1⟩
      have hw1 : Below w.heap.size w w1 := bel_trans (bel_drew hb) hb1
      go_wp2
      go_roundw
      case rel => exact ⟨k + 1, by omega, by go_num, hw1⟩
      case measure => simp [intOf]; omega
    · go_wp2
      go_ret
      exact ⟨rfl, hb⟩

abbrev tRule : Ty := (.pr (.sl .str) (.sl .str))
theorem rd_Rule {w : World} {cs : List Value} {x : tRule.D} (h : tRule.rd w cs x) : ∃ (A0 : Option Addr) (c0 : Nat) (A1 : Option Addr) (c1 : Nat), cs = [.slice A0 (List.length x.1) c0, .slice A1 (List.length x.2) c1] ∧ (Ty.rd w (.sl .str) [.slice A0 (List.length x.1) c0] x.1) ∧ (Ty.rd w (.sl .str) [.slice A1 (List.length x.2) c1] x.2) := by
  obtain ⟨c0, r0, rfl, g0, q0⟩ := h
  have g1 := q0
  obtain ⟨A0, c0, rfl⟩ := Ty.rd_slv g0
  obtain ⟨A1, c1, rfl⟩ := Ty.rd_slv g1
  exact ⟨A0, c0, A1, c1, rfl, g0, g1⟩

theorem ow_Rule {w : World} {cs : List Value} {x : tRule.D} {fp : List Nat} (h : tRule.ow w cs x fp) : ∃ (A0 : Option Addr) (c0 : Nat) (A1 : Option Addr) (c1 : Nat), cs = [.slice A0 (List.length x.1) c0, .slice A1 (List.length x.2) c1] := by
  obtain ⟨c0, r0, f0, t0, rfl, _, g0, q0⟩ := h
  have g1 := q0
  obtain ⟨A0, c0, rfl⟩ := Ty.ow_slv g0
  obtain ⟨A1, c1, rfl⟩ := Ty.ow_slv g1
  exact ⟨A0, c0, A1, c1, rfl⟩

abbrev tRequester : Ty := (.pr .int (.pr .int .int))
theorem rd_Requester {w : World} {cs : List Value} {x : tRequester.D} (h : tRequester.rd w cs x) : cs = [.int .i64 x.1, .int .i64 x.2.1, .int .i64 x.2.2] ∧ (-9223372036854775808 ≤ x.1 ∧ x.1 ≤ 9223372036854775807) ∧ (-9223372036854775808 ≤ x.2.1 ∧ x.2.1 ≤ 9223372036854775807) ∧ (-9223372036854775808 ≤ x.2.2 ∧ x.2.2 ≤ 9223372036854775807) := by
  obtain ⟨c0, r0, rfl, g0, q0⟩ := h
  obtain ⟨c1, r1, rfl, g1, q1⟩ := q0
  have g2 := q1
  obtain ⟨rfl, b0⟩ := g0
  obtain ⟨rfl, b1⟩ := g1
  obtain ⟨rfl, b2⟩ := g2
  exact ⟨rfl, b0, b1, b2⟩

theorem ow_Requester {w : World} {cs : List Value} {x : tRequester.D} {fp : List Nat} (h : tRequester.ow w cs x fp) : cs = [.int .i64 x.1, .int .i64 x.2.1, .int .i64 x.2.2] := by
  obtain ⟨c0, r0, f0, t0, rfl, _, g0, q0⟩ := h
  obtain ⟨c1, r1, f1, t1, rfl, _, g1, q1⟩ := q0
  have g2 := q1
  obtain ⟨⟨rfl, b0⟩, _⟩ := g0
  obtain ⟨⟨rfl, b1⟩, _⟩ := g1
  obtain ⟨⟨rfl, b2⟩, _⟩ := g2
  rfl

set_option maxHeartbeats 1000000 in
theorem C_laws_toRequester (w : World) (cs : List Value) (x : Ty.D tRequester) (h : Ty.rd w tRequester cs x) (h1 : Ty.bulk tRequester x ≤ 1048576) :
    Calls Try.prog 52 #[.agg cs.toArray] w (RetAgg w tRequester x) := by
  obtain ⟨rfl, sag0, sag1, sag2⟩ := rd_Requester h
  have h1' : (0 + (0 + 0)) ≤ 1048576 := h1
  go_enter Try.func52, Try.ntmps52

  go_wp2
  refine bodyPost_ret (v := .agg #[.int .i64 x.1, .int .i64 x.2.1, .int .i64 x.2.2]) (by simp [results, Try.results52, go_sem]) rfl ?_
  exact ⟨_, ([] ++ ([] ++ [])), rfl, ⟨[.int .i64 x.1], [.int .i64 x.2.1, .int .i64 x.2.2], [], ([] ++ []), rfl, rfl, ⟨⟨rfl, sag0⟩, rfl⟩, ⟨[.int .i64 x.2.1], [.int .i64 x.2.2], [], [], rfl, rfl, ⟨⟨rfl, sag1⟩, rfl⟩, ⟨⟨rfl, sag2⟩, rfl⟩⟩⟩, FrI.nil _ _, bel_trans (by repeat' (first | (with_reducible exact Below.refl _ _) | (with_reducible assumption) | (with_reducible refine bel_set ?_ (by (try dsimp only); omega) _) | (with_reducible refine bel_alloc ?_ _) | (with_reducible refine bel_drewN ?_ _) | (with_reducible refine bel_drew ?_))) (Below.refl _ _)⟩

set_option maxHeartbeats 1000000 in
theorem C_laws_eqRequester (w : World) (cs1 cs2 : List Value) (x : Ty.D tRequester) (h1 : Ty.rd w tRequester cs1 x) (h2 : Ty.rd w tRequester cs2 x) :
    Calls Try.prog 54 #[.agg cs1.toArray, .agg cs2.toArray] w (RetB w true) := by
  obtain ⟨rfl, sag0, sag1, sag2⟩ := rd_Requester h1
  obtain ⟨rfl, tbg0, tbg1, tbg2⟩ := rd_Requester h2
  go_enter Try.func54, Try.ntmps54

  go_wp2
  go_ret
  exact ⟨rfl, (by repeat' (first | (with_reducible exact Below.refl _ _) | (with_reducible assumption) | (with_reducible refine bel_set ?_ (by (try dsimp only); omega) _) | (with_reducible refine bel_alloc ?_ _) | (with_reducible refine bel_drewN ?_ _) | (with_reducible refine bel_drew ?_)))⟩

set_option maxHeartbeats 400000 in
theorem C_laws_szRequesterS (w : World) (v : Value) (x : List (Ty.D tRequester)) (left : Int) (h : (Ty.sl tRequester).rd w [v] x) (h0 : 0 ≤ left) (h1 : left ≤ 1048576) :
    Calls Try.prog 39 #[v, .int .i64 left] w (RetSz w left (Ty.bulk (.sl tRequester) x)) := by
  obtain ⟨A, c, rfl, hc, hm, hn⟩ := Ty.rd_sl h
  unfold maxLen at hm
  have hz : Ty.bulk (.sl tRequester) x = x.length := Ty.bulk_flat (fun _ => rfl) x
  go_enter Try.func39, Try.ntmps39
  go_wp2
  all_goals go_ret
  · exact ⟨-1, rfl, .inl rfl, Below.refl _ _⟩
  · exact ⟨_, rfl, .inr ⟨by omega, by rw [hz]; omega⟩, Below.refl _ _⟩

theorem info_Requester : (Try.prog.info? 58).map (fun i => (i.zero, i.size, i.bytes)) = some (some (.agg #[.int .i64 0, .int .i64 0, .int .i64 0]), 3, 24) := by kernel_rfl
set_option maxHeartbeats 1000000 in
theorem C_laws_toRequesterS (w : World) (v : Value) (x : List (Ty.D tRequester)) (h : (Ty.sl tRequester).rd w [v] x) (hbk : Ty.bulk (.sl tRequester) x ≤ 1048576) :
    Calls Try.prog 40 #[v] w (RetSl w tRequester x) := by
  obtain ⟨A, c, rfl, hc, hm, hn⟩ := Ty.rd_sl h
  unfold maxLen at hm
  have h1 := Ty.bulk_len hbk
  have hmk := run_make_eq 54 58 info_Requester Try.underlying54 x.length (by omega) (by omega)
  go_enter Try.func40, Try.ntmps40
  go_wp2_with fail
  clear hmk
  go_loopw [4] (fun i wr => ∃ (k : Nat), k ≤ x.length ∧ i = .int .i64 k ∧ ToInv tRequester w.heap.size 58 x k wr ∧ Below w.heap.size w wr) (fun i _ => x.length - (intOf i).toNat)
  case atStart => exact ⟨0, by omega, rfl, ToInv.zero (Blk.new _ _ _) (by simp [size_madeCells, Ty.sz]), (Below.refl _ _).alloc (Nat.le_refl _) _⟩
  case round =>
    obtain ⟨k, hk, rfl, hinv, hb⟩ := hrel
    by_cases hlt : k < x.length
    · obtain ⟨b, o, ds, rfl, hl, hcell, hrd⟩ := Ty.rd_at (Ty.rd_below hb h) hlt
      obtain ⟨rfl, sag0, sag1, sag2⟩ := rd_Requester hrd
      have e0 : wr.cell? ⟨b, o + k * 3, none⟩ = some (.int .i64 x[k].1) := by simpa [Ty.sz] using hcell 0 (by decide)
      have e1 : wr.cell? ⟨b, o + k * 3 + 1, none⟩ = some (.int .i64 x[k].2.1) := by simpa [Ty.sz] using hcell 1 (by decide)
      have e2 : wr.cell? ⟨b, o + k * 3 + 2, none⟩ = some (.int .i64 x[k].2.2) := by simpa [Ty.sz] using hcell 2 (by decide)
      clear hcell hl
      go_wp2_with fail
      refine (C_laws_toRequester _ _ _ hrd (Ty.bulk_at hbk hlt)).mono ?_
      rintro e w1 ⟨cs1, fp1, rfl, how1, hfr1, hb1⟩
      obtain rfl := ow_Requester how1
      have hw1 : Below w.heap.size w w1 := bel_trans hb hb1
      obtain ⟨cur, hblk, hsz⟩ := hinv.blk
      have hg := hblk.lt
      have hblk1 := hblk.below hb1 hg
      have hsz' : cur.size = x.length * 3 := hsz
      obtain ⟨old0, o0⟩ : ∃ v, w1.cell? ⟨w.heap.size, k * 3, none⟩ = some v := ⟨_, (hblk1.cell _).trans (Array.getElem?_eq_getElem (by omega))⟩
      have f0 : w1.frozen? ⟨w.heap.size, k * 3, none⟩ = false := hblk1.frozen _
      obtain ⟨old1, o1⟩ : ∃ v, w1.cell? ⟨w.heap.size, k * 3 + 1, none⟩ = some v := ⟨_, (hblk1.cell _).trans (Array.getElem?_eq_getElem (by omega))⟩
      have f1 : w1.frozen? ⟨w.heap.size, k * 3 + 1, none⟩ = false := hblk1.frozen _
      obtain ⟨old2, o2⟩ : ∃ v, w1.cell? ⟨w.heap.size, k * 3 + 2, none⟩ = some v := ⟨_, (hblk1.cell _).trans (Array.getElem?_eq_getElem (by omega))⟩
      have f2 : w1.frozen? ⟨w.heap.size, k * 3 + 2, none⟩ = false := hblk1.frozen _
      have HSZ := Lib.hid hsz
      clear hsz hsz' hblk
      go_wp2
      go_roundw
      case rel =>
        refine ⟨k + 1, by omega, by go_num, hinv.step hlt hb1 how1 hfr1 (fun b' hb' => ?_) (by simp) (fun cur' hb2 => ?_), (by repeat' (first | (with_reducible exact Below.refl _ _) | (with_reducible assumption) | (with_reducible refine bel_set ?_ (by (try dsimp only); omega) _) | (with_reducible refine bel_alloc ?_ _) | (with_reducible refine bel_drewN ?_ _) | (with_reducible refine bel_drew ?_)))⟩
        · repeat (rw [Below.heap_setCell _ _ _ _ hb'])
        · exact (((hb2.set_ (k * 3) _).set_ (k * 3 + 1) _).set_ (k * 3 + 2) _)
      case measure => simp [intOf]; omega
    · go_wp2
      go_ret
      obtain rfl : k = x.length := by omega
      obtain ⟨fp, q1, q2⟩ := hinv.done (w := w) (c := x.length) (Nat.le_refl _) (Nat.le_refl _) (by unfold maxLen; omega) hn
      exact ⟨_, _, fp, rfl, q1, q2, hb⟩

set_option maxHeartbeats 1000000 in
theorem C_laws_eqRequesterS (w : World) (v1 v2 : Value) (x : List (Ty.D tRequester)) (h1 : (Ty.sl tRequester).rd w [v1] x) (h2 : (Ty.sl tRequester).rd w [v2] x) :
    Calls Try.prog 44 #[v1, v2] w (RetB w true) := by
  obtain ⟨A1, c1, rfl, hc1, hm1, hn1⟩ := Ty.rd_sl h1
  obtain ⟨A2, c2, rfl, hc2, hm2, hn2⟩ := Ty.rd_sl h2
  have hne : ((x.length : Int) != x.length) = false := by simp
  go_enter Try.func44, Try.ntmps44
  go_wp2
  go_loopw [5] (fun i wr => ∃ k : Nat, k ≤ x.length ∧ i = .int .i64 k ∧ Below w.heap.size w wr) (fun i _ => x.length - (intOf i).toNat)
  case atStart => exact ⟨0, by omega, rfl, Below.refl _ _⟩
  case round =>
    obtain ⟨k, hk, rfl, hb⟩ := hrel
    by_cases hlt : k < x.length
    · obtain ⟨b1, o1, ds1, rfl, hl1, hcell1, hrd1⟩ := Ty.rd_at (Ty.rd_below hb h1) hlt
      obtain ⟨rfl, sag0, sag1, sag2⟩ := rd_Requester hrd1
      have e0 : wr.cell? ⟨b1, o1 + k * 3, none⟩ = some (.int .i64 x[k].1) := by simpa [Ty.sz] using hcell1 0 (by decide)
      have e1 : wr.cell? ⟨b1, o1 + k * 3 + 1, none⟩ = some (.int .i64 x[k].2.1) := by simpa [Ty.sz] using hcell1 1 (by decide)
      have e2 : wr.cell? ⟨b1, o1 + k * 3 + 2, none⟩ = some (.int .i64 x[k].2.2) := by simpa [Ty.sz] using hcell1 2 (by decide)
      clear hcell1 hl1
      obtain ⟨b2, o2, ds2, rfl, hl2, hcell2, hrd2⟩ := Ty.rd_at (Ty.rd_below hb h2) hlt
      obtain ⟨rfl, tbg0, tbg1, tbg2⟩ := rd_Requester hrd2
      have d0 : wr.cell? ⟨b2, o2 + k * 3, none⟩ = some (.int .i64 x[k].1) := by simpa [Ty.sz] using hcell2 0 (by decide)
      have d1 : wr.cell? ⟨b2, o2 + k * 3 + 1, none⟩ = some (.int .i64 x[k].2.1) := by simpa [Ty.sz] using hcell2 1 (by decide)
      have d2 : wr.cell? ⟨b2, o2 + k * 3 + 2, none⟩ = some (.int .i64 x[k].2.2) := by simpa [Ty.sz] using hcell2 2 (by decide)
      clear hcell2 hl2
      go_wp2_with fail
      set_option maxRecDepth 100000 in go_still_tail 8, (by kernel_rfl)
      go_wp2_with fail
      refine (C_laws_eqRequester _ _ _ _ (Ty.rd_below (by repeat' (first | (with_reducible exact Below.refl _ _) | (with_reducible assumption) | (with_reducible refine bel_set ?_ (by (try dsimp only); omega) _) | (with_reducible refine bel_alloc ?_ _) | (with_reducible refine bel_drewN ?_ _) | (with_reducible refine bel_drew ?_))) hrd1) (Ty.rd_below (by repeat' (first | (with_reducible exact Below.refl _ _) | (with_reducible assumption) | (with_reducible refine bel_set ?_ (by (try dsimp only); omega) _) | (with_reducible refine bel_alloc ?_ _) | (with_reducible refine bel_drewN ?_ _) | (with_reducible refine bel_drew ?_))) hrd2)).mono ?_
      rintro e w1 ⟨rfl, hb1⟩
      have hw1 : Below w.heap.size w w1 := bel_trans (bel_drew hb) hb1
      go_wp2
      go_roundw
      case rel => exact ⟨k + 1, by omega, by go_num, hw1⟩
      case measure => simp [intOf]; omega
    · go_wp2
      go_ret
      exact ⟨rfl, hb⟩

abbrev tSeenNonce : Ty := (.pr (.sl .str) .int)
theorem rd_SeenNonce {w : World} {cs : List Value} {x : tSeenNonce.D} (h : tSeenNonce.rd w cs x) : ∃ (A0 : Option Addr) (c0 : Nat), cs = [.slice A0 (List.length x.1) c0, .int .i64 x.2] ∧ (Ty.rd w (.sl .str) [.slice A0 (List.length x.1) c0] x.1) ∧ (-9223372036854775808 ≤ x.2 ∧ x.2 ≤ 9223372036854775807) := by
  obtain ⟨c0, r0, rfl, g0, q0⟩ := h
  have g1 := q0
  obtain ⟨A0, c0, rfl⟩ := Ty.rd_slv g0
  obtain ⟨rfl, b1⟩ := g1
  exact ⟨A0, c0, rfl, g0, b1⟩

theorem ow_SeenNonce {w : World} {cs : List Value} {x : tSeenNonce.D} {fp : List Nat} (h : tSeenNonce.ow w cs x fp) : ∃ (A0 : Option Addr) (c0 : Nat), cs = [.slice A0 (List.length x.1) c0, .int .i64 x.2] := by
  obtain ⟨c0, r0, f0, t0, rfl, _, g0, q0⟩ := h
  have g1 := q0
  obtain ⟨A0, c0, rfl⟩ := Ty.ow_slv g0
  obtain ⟨⟨rfl, b1⟩, _⟩ := g1
  exact ⟨A0, c0, rfl⟩

abbrev tCacheEntry : Ty := (.pr tData .int)
theorem rd_CacheEntry {w : World} {cs : List Value} {x : tCacheEntry.D} (h : tCacheEntry.rd w cs x) : ∃ (A00 : Option Addr) (c00 : Nat) (A01 : Option Addr) (c01 : Nat) (A02 : Option Addr) (c02 : Nat), cs = [.slice A00 (List.length x.1.1) c00, .slice A01 (List.length x.1.2.1) c01, .slice A02 (List.length x.1.2.2.1) c02, .int .i64 x.1.2.2.2.1, .int .i64 x.1.2.2.2.2, .int .i64 x.2] ∧ (Ty.rd w tData [.slice A00 (List.length x.1.1) c00, .slice A01 (List.length x.1.2.1) c01, .slice A02 (List.length x.1.2.2.1) c02, .int .i64 x.1.2.2.2.1, .int .i64 x.1.2.2.2.2] x.1) ∧ (-9223372036854775808 ≤ x.2 ∧ x.2 ≤ 9223372036854775807) := by
  obtain ⟨c0, r0, rfl, g0, q0⟩ := h
  have g1 := q0
  have g0' := g0
  obtain ⟨A00, c00, A01, c01, A02, c02, rfl, _, _, _, _, _⟩ := rd_Data g0'
  obtain ⟨rfl, b1⟩ := g1
  exact ⟨A00, c00, A01, c01, A02, c02, rfl, g0, b1⟩

theorem ow_CacheEntry {w : World} {cs : List Value} {x : tCacheEntry.D} {fp : List Nat} (h : tCacheEntry.ow w cs x fp) : ∃ (A00 : Option Addr) (c00 : Nat) (A01 : Option Addr) (c01 : Nat) (A02 : Option Addr) (c02 : Nat), cs = [.slice A00 (List.length x.1.1) c00, .slice A01 (List.length x.1.2.1) c01, .slice A02 (List.length x.1.2.2.1) c02, .int .i64 x.1.2.2.2.1, .int .i64 x.1.2.2.2.2, .int .i64 x.2] := by
  obtain ⟨c0, r0, f0, t0, rfl, _, g0, q0⟩ := h
  have g1 := q0
  obtain ⟨A00, c00, A01, c01, A02, c02, rfl⟩ := ow_Data g0
  obtain ⟨⟨rfl, b1⟩, _⟩ := g1
  exact ⟨A00, c00, A01, c01, A02, c02, rfl⟩

abbrev tContentStore : Ty := (.pr .int (.sl tCacheEntry))
theorem rd_ContentStore {w : World} {cs : List Value} {x : tContentStore.D} (h : tContentStore.rd w cs x) : ∃ (A1 : Option Addr) (c1 : Nat), cs = [.int .i64 x.1, .slice A1 (List.length x.2) c1] ∧ (-9223372036854775808 ≤ x.1 ∧ x.1 ≤ 9223372036854775807) ∧ (Ty.rd w (.sl tCacheEntry) [.slice A1 (List.length x.2) c1] x.2) := by
  obtain ⟨c0, r0, rfl, g0, q0⟩ := h
  have g1 := q0
  obtain ⟨rfl, b0⟩ := g0
  obtain ⟨A1, c1, rfl⟩ := Ty.rd_slv g1
  exact ⟨A1, c1, rfl, b0, g1⟩

theorem ow_ContentStore {w : World} {cs : List Value} {x : tContentStore.D} {fp : List Nat} (h : tContentStore.ow w cs x fp) : ∃ (A1 : Option Addr) (c1 : Nat), cs = [.int .i64 x.1, .slice A1 (List.length x.2) c1] := by
  obtain ⟨c0, r0, f0, t0, rfl, _, g0, q0⟩ := h
  have g1 := q0
  obtain ⟨⟨rfl, b0⟩, _⟩ := g0
  obtain ⟨A1, c1, rfl⟩ := Ty.ow_slv g1
  exact ⟨A1, c1, rfl⟩

abbrev tPendingInterest : Ty := (.pr (.sl .str) (.pr (.sl tRequester) .int))
theorem rd_PendingInterest {w : World} {cs : List Value} {x : tPendingInterest.D} (h : tPendingInterest.rd w cs x) : ∃ (A0 : Option Addr) (c0 : Nat) (A1 : Option Addr) (c1 : Nat), cs = [.slice A0 (List.length x.1) c0, .slice A1 (List.length x.2.1) c1, .int .i64 x.2.2] ∧ (Ty.rd w (.sl .str) [.slice A0 (List.length x.1) c0] x.1) ∧ (Ty.rd w (.sl tRequester) [.slice A1 (List.length x.2.1) c1] x.2.1) ∧ (-9223372036854775808 ≤ x.2.2 ∧ x.2.2 ≤ 9223372036854775807) := by
  obtain ⟨c0, r0, rfl, g0, q0⟩ := h
  obtain ⟨c1, r1, rfl, g1, q1⟩ := q0
  have g2 := q1
  obtain ⟨A0, c0, rfl⟩ := Ty.rd_slv g0
  obtain ⟨A1, c1, rfl⟩ := Ty.rd_slv g1
  obtain ⟨rfl, b2⟩ := g2
  exact ⟨A0, c0, A1, c1, rfl, g0, g1, b2⟩

theorem ow_PendingInterest {w : World} {cs : List Value} {x : tPendingInterest.D} {fp : List Nat} (h : tPendingInterest.ow w cs x fp) : ∃ (A0 : Option Addr) (c0 : Nat) (A1 : Option Addr) (c1 : Nat), cs = [.slice A0 (List.length x.1) c0, .slice A1 (List.length x.2.1) c1, .int .i64 x.2.2] := by
  obtain ⟨c0, r0, f0, t0, rfl, _, g0, q0⟩ := h
  obtain ⟨c1, r1, f1, t1, rfl, _, g1, q1⟩ := q0
  have g2 := q1
  obtain ⟨A0, c0, rfl⟩ := Ty.ow_slv g0
  obtain ⟨A1, c1, rfl⟩ := Ty.ow_slv g1
  obtain ⟨⟨rfl, b2⟩, _⟩ := g2
  exact ⟨A0, c0, A1, c1, rfl⟩

set_option maxHeartbeats 400000 in
theorem C_laws_szPendingInterest (w : World) (cs : List Value) (x : Ty.D tPendingInterest) (left : Int) (h : Ty.rd w tPendingInterest cs x) (h0 : 0 ≤ left) (h1 : left ≤ 1048576) :
    Calls Try.prog 23 #[.agg cs.toArray, .int .i64 left] w (RetSz w left (Ty.bulk tPendingInterest x)) := by
  obtain ⟨Aa0, ca0, Aa1, ca1, rfl, sag0, sag1, sag2⟩ := rd_PendingInterest h
  go_enter Try.func23, Try.ntmps23
  go_wp2_with fail
  refine (C_laws_szName _ _ _ left (Ty.rd_below (by repeat' (first | (with_reducible exact Below.refl _ _) | (with_reducible assumption) | (with_reducible refine bel_set ?_ (by (try dsimp only); omega) _) | (with_reducible refine bel_alloc ?_ _) | (with_reducible refine bel_drewN ?_ _) | (with_reducible refine bel_drew ?_))) sag0) h0 h1).mono ?_
  rintro e w0 ⟨r0, rfl, hr0, hb0⟩
  have hw0 : Below w.heap.size w w0 := bel_trans (by repeat' (first | (with_reducible exact Below.refl _ _) | (with_reducible assumption) | (with_reducible refine bel_set ?_ (by (try dsimp only); omega) _) | (with_reducible refine bel_alloc ?_ _) | (with_reducible refine bel_drewN ?_ _) | (with_reducible refine bel_drew ?_))) hb0
  obtain ⟨hc0, hf0⟩ := bcell hb0
  have hz0 := hb0.size
  try simp only [World.size_alloc] at hz0
  have z00 : w.heap.size < w0.heap.size := by omega
  rcases hr0 with rfl | ⟨p0, q0⟩
  · go_wp2
    go_ret
    exact ⟨-1, rfl, .inl rfl, hw0⟩
  go_wp2_with fail
  refine (C_laws_szRequesterS _ _ _ r0 (Ty.rd_below (by repeat' (first | (with_reducible exact Below.refl _ _) | (with_reducible assumption) | (with_reducible refine bel_set ?_ (by (try dsimp only); omega) _) | (with_reducible refine bel_alloc ?_ _) | (with_reducible refine bel_drewN ?_ _) | (with_reducible refine bel_drew ?_))) sag1) p0 (by omega)).mono ?_
  rintro e w1 ⟨r1, rfl, hr1, hb1⟩
  have hw1 : Below w.heap.size w w1 := bel_trans hw0 hb1
  obtain ⟨hc1, hf1⟩ := bcell hb1
  have hz1 := hb1.size
  try simp only [World.size_alloc] at hz1
  have z10 : w.heap.size < w1.heap.size := by omega
  rcases hr1 with rfl | ⟨p1, q1⟩
  · go_wp2
    go_ret
    exact ⟨-1, rfl, .inl rfl, hw1⟩
  go_wp2
  go_ret
  exact ⟨r1, rfl, .inr ⟨p1, by show r1 + (((Ty.bulk (.sl .str) x.1 + (Ty.bulk (.sl tRequester) x.2.1 + 0)) : Nat) : Int) ≤ left; omega⟩, hw1⟩

set_option maxHeartbeats 1000000 in
theorem C_laws_toPendingInterest (w : World) (cs : List Value) (x : Ty.D tPendingInterest) (h : Ty.rd w tPendingInterest cs x) (h1 : Ty.bulk tPendingInterest x ≤ 1048576) :
    Calls Try.prog 25 #[.agg cs.toArray] w (RetAgg w tPendingInterest x) := by
  obtain ⟨Aa0, ca0, Aa1, ca1, rfl, sag0, sag1, sag2⟩ := rd_PendingInterest h
  have h1' : (Ty.bulk (.sl .str) x.1 + (Ty.bulk (.sl tRequester) x.2.1 + 0)) ≤ 1048576 := h1
  go_enter Try.func25, Try.ntmps25
  go_wp2_with fail
  refine (C_laws_toName _ _ _ (Ty.rd_below (by repeat' (first | (with_reducible exact Below.refl _ _) | (with_reducible assumption) | (with_reducible refine bel_set ?_ (by (try dsimp only); omega) _) | (with_reducible refine bel_alloc ?_ _) | (with_reducible refine bel_drewN ?_ _) | (with_reducible refine bel_drew ?_))) sag0) (by omega)).mono ?_
  rintro e w0 ⟨cs0, fp0, rfl, how0, hfr0, hb0⟩
  obtain ⟨A0, c0, rfl⟩ := Ty.ow_slv how0
  have hw0 : Below w.heap.size w w0 := bel_trans (by repeat' (first | (with_reducible exact Below.refl _ _) | (with_reducible assumption) | (with_reducible refine bel_set ?_ (by (try dsimp only); omega) _) | (with_reducible refine bel_alloc ?_ _) | (with_reducible refine bel_drewN ?_ _) | (with_reducible refine bel_drew ?_))) hb0
  obtain ⟨hc0, hf0⟩ := bcell hb0
  have hz0 := hb0.size
  try simp only [World.size_alloc, World.size_setCell] at hz0
  have zw00 : w.heap.size < w0.heap.size := by omega
  have zw01 : w.heap.size + 1 < w0.heap.size := by omega
  have zw02 : w.heap.size + 1 + 1 < w0.heap.size := by omega
  go_wp2_with fail
  refine (C_laws_toRequesterS _ _ _ (Ty.rd_below (by repeat' (first | (with_reducible exact Below.refl _ _) | (with_reducible assumption) | (with_reducible refine bel_set ?_ (by (try dsimp only); omega) _) | (with_reducible refine bel_alloc ?_ _) | (with_reducible refine bel_drewN ?_ _) | (with_reducible refine bel_drew ?_))) sag1) (by omega)).mono ?_
  rintro e w1 ⟨A1, c1, fp1, rfl, how1, hfr1, hb1⟩
  have hw1 : Below w.heap.size w w1 := bel_trans (by repeat' (first | (with_reducible exact Below.refl _ _) | (with_reducible assumption) | (with_reducible refine bel_set ?_ (by (try dsimp only); omega) _) | (with_reducible refine bel_alloc ?_ _) | (with_reducible refine bel_drewN ?_ _) | (with_reducible refine bel_drew ?_))) hb1
  obtain ⟨hc1, hf1⟩ := bcell hb1
  have hz1 := hb1.size
  try simp only [World.size_alloc, World.size_setCell] at hz1
  have zw10 : w.heap.size < w1.heap.size := by omega
  have zw11 : w.heap.size + 1 < w1.heap.size := by omega
  have zw12 : w.heap.size + 1 + 1 < w1.heap.size := by omega
  go_wp2
  refine bodyPost_ret (v := .agg #[.slice A0 (List.length x.1) c0, .slice A1 (List.length x.2.1) c1, .int .i64 x.2.2]) (by simp [results, Try.results25, go_sem, hc0, hf0, zw00, zw01, zw02, hc1, hf1, zw10, zw11, zw12]) rfl ?_
  exact ⟨_, (fp0 ++ (fp1 ++ [])), rfl, ⟨[.slice A0 (List.length x.1) c0], [.slice A1 (List.length x.2.1) c1, .int .i64 x.2.2], fp0, (fp1 ++ []), rfl, rfl, Ty.ow_keep (by intro b hb'; have hb'' := (hfr0).2 b hb'; (try simp only [World.size_alloc, World.size_setCell, size_drewN, World.size_drew] at hb''); repeat (first | (with_reducible rfl) | (rw [Below.heap_setCell _ _ _ _ (by (try dsimp only); omega)]) | (rw [Below.heap_alloc _ _ _ (by simp only [World.size_alloc, World.size_setCell]; omega)]) | (rw [hb1.block _ (by simp only [World.size_alloc, World.size_setCell, size_drewN, World.size_drew]; omega)]))) how0, ⟨[.slice A1 (List.length x.2.1) c1], [.int .i64 x.2.2], fp1, [], rfl, rfl, Ty.ow_keep (by intro b hb'; have hb'' := (hfr1).2 b hb'; (try simp only [World.size_alloc, World.size_setCell, size_drewN, World.size_drew] at hb''); repeat (first | (with_reducible rfl) | (rw [Below.heap_setCell _ _ _ _ (by (try dsimp only); omega)]) | (rw [Below.heap_alloc _ _ _ (by simp only [World.size_alloc, World.size_setCell]; omega)]))) how1, ⟨⟨rfl, sag2⟩, rfl⟩⟩⟩, (FrI.app (hfr0.mono (by (try simp only [World.size_alloc, World.size_setCell, size_drewN, World.size_drew]); omega) (Nat.le_refl _)) ((FrI.app (hfr1.mono (Nat.le_refl _) (Nat.le_refl _)) (FrI.nil w1.heap.size _) (by (try simp only [World.size_alloc, World.size_setCell, size_drewN, World.size_drew]); omega) (by (try simp only [World.size_alloc, World.size_setCell, size_drewN, World.size_drew]); omega) (by (try simp only [World.size_alloc, World.size_setCell, size_drewN, World.size_drew]); omega))) (by (try simp only [World.size_alloc, World.size_setCell, size_drewN, World.size_drew]); omega) (by (try simp only [World.size_alloc, World.size_setCell, size_drewN, World.size_drew]); omega) (by (try simp only [World.size_alloc, World.size_setCell, size_drewN, World.size_drew]); omega)), bel_trans (by repeat' (first | (with_reducible exact Below.refl _ _) | (with_reducible assumption) | (with_reducible refine bel_set ?_ (by (try dsimp only); omega) _) | (with_reducible refine bel_alloc ?_ _) | (with_reducible refine bel_drewN ?_ _) | (with_reducible refine bel_drew ?_))) (Below.refl _ _)⟩

set_option maxHeartbeats 1000000 in
theorem C_laws_eqPendingInterest (w : World) (cs1 cs2 : List Value) (x : Ty.D tPendingInterest) (h1 : Ty.rd w tPendingInterest cs1 x) (h2 : Ty.rd w tPendingInterest cs2 x) :
    Calls Try.prog 29 #[.agg cs1.toArray, .agg cs2.toArray] w (RetB w true) := by
  obtain ⟨Aa0, ca0, Aa1, ca1, rfl, sag0, sag1, sag2⟩ := rd_PendingInterest h1
  obtain ⟨Ab0, cb0, Ab1, cb1, rfl, tbg0, tbg1, tbg2⟩ := rd_PendingInterest h2
  go_enter Try.func29, Try.ntmps29
  go_wp2_with fail
  refine (C_laws_eqName _ _ _ _ (Ty.rd_below (by repeat' (first | (with_reducible exact Below.refl _ _) | (with_reducible assumption) | (with_reducible refine bel_set ?_ (by (try dsimp only); omega) _) | (with_reducible refine bel_alloc ?_ _) | (with_reducible refine bel_drewN ?_ _) | (with_reducible refine bel_drew ?_))) sag0) (Ty.rd_below (by repeat' (first | (with_reducible exact Below.refl _ _) | (with_reducible assumption) | (with_reducible refine bel_set ?_ (by (try dsimp only); omega) _) | (with_reducible refine bel_alloc ?_ _) | (with_reducible refine bel_drewN ?_ _) | (with_reducible refine bel_drew ?_))) tbg0)).mono ?_
  rintro e w0 ⟨rfl, hb0⟩
  have hw0 : Below w.heap.size w w0 := bel_trans (by repeat' (first | (with_reducible exact Below.refl _ _) | (with_reducible assumption) | (with_reducible refine bel_set ?_ (by (try dsimp only); omega) _) | (with_reducible refine bel_alloc ?_ _) | (with_reducible refine bel_drewN ?_ _) | (with_reducible refine bel_drew ?_))) hb0
  obtain ⟨hc0, hf0⟩ := bcell hb0
  have hz0 := hb0.size
  try simp only [World.size_alloc, World.size_setCell] at hz0
  have zw00 : w.heap.size < w0.heap.size := by omega
  have zw01 : w.heap.size + 1 < w0.heap.size := by omega
  go_wp2_with fail
  refine (C_laws_eqRequesterS _ _ _ _ (Ty.rd_below (by repeat' (first | (with_reducible exact Below.refl _ _) | (with_reducible assumption) | (with_reducible refine bel_set ?_ (by (try dsimp only); omega) _) | (with_reducible refine bel_alloc ?_ _) | (with_reducible refine bel_drewN ?_ _) | (with_reducible refine bel_drew ?_))) sag1) (Ty.rd_below (by repeat' (first | (with_reducible exact Below.refl _ _) | (with_reducible assumption) | (with_reducible refine bel_set ?_ (by (try dsimp only); omega) _) | (with_reducible refine bel_alloc ?_ _) | (with_reducible refine bel_drewN ?_ _) | (with_reducible refine bel_drew ?_))) tbg1)).mono ?_
  rintro e w1 ⟨rfl, hb1⟩
  have hw1 : Below w.heap.size w w1 := bel_trans (by repeat' (first | (with_reducible exact Below.refl _ _) | (with_reducible assumption) | (with_reducible refine bel_set ?_ (by (try dsimp only); omega) _) | (with_reducible refine bel_alloc ?_ _) | (with_reducible refine bel_drewN ?_ _) | (with_reducible refine bel_drew ?_))) hb1
  obtain ⟨hc1, hf1⟩ := bcell hb1
  have hz1 := hb1.size
  try simp only [World.size_alloc, World.size_setCell] at hz1
  have zw10 : w.heap.size < w1.heap.size := by omega
  have zw11 : w.heap.size + 1 < w1.heap.size := by omega
  go_wp2
  go_ret
  exact ⟨rfl, (by repeat' (first | (with_reducible exact Below.refl _ _) | (with_reducible assumption) | (with_reducible refine bel_set ?_ (by (try dsimp only); omega) _) | (with_reducible refine bel_alloc ?_ _) | (with_reducible refine bel_drewN ?_ _) | (with_reducible refine bel_drew ?_)))⟩

set_option maxHeartbeats 400000 in
theorem C_laws_szPendingInterestS (w : World) (v : Value) (x : List (Ty.D tPendingInterest)) (left : Int) (h : (Ty.sl tPendingInterest).rd w [v] x) (h0 : 0 ≤ left) (h1 : left ≤ 1048576) :
    Calls Try.prog 10 #[v, .int .i64 left] w (RetSz w left (Ty.bulk (.sl tPendingInterest) x)) := by
  obtain ⟨A, c, rfl, hc, hm, hn⟩ := Ty.rd_sl h
  unfold maxLen at hm
  go_enter Try.func10, Try.ntmps10
  go_wp2
  · go_ret
    exact ⟨-1, rfl, .inl rfl, Below.refl _ _⟩
  · go_loopw [1, 5] (fun l i wr => ∃ (k : Nat) (r : Int), k ≤ x.length ∧ l = .int .i64 r ∧ i = .int .i64 k ∧ 0 ≤ r ∧ r + (x.length + ((x.take k).map (Ty.bulk tPendingInterest)).sum : Nat) ≤ left ∧ Below w.heap.size w wr) (fun _ i _ => x.length - (intOf i).toNat)
    case atStart => exact ⟨0, _, by omega, rfl, rfl, by omega, by simp, Below.refl _ _⟩
    case round =>
      obtain ⟨k, r, hk, rfl, rfl, hr0, hr, hb⟩ := hrel
      by_cases hlt : k < x.length
      · obtain ⟨b, o, ds, rfl, hl, hcell, hrd⟩ := Ty.rd_at (Ty.rd_below hb h) hlt
        have HS := Lib.hid (sum_take_succ (Ty.bulk tPendingInterest) x hlt)
        obtain ⟨Aa0, ca0, Aa1, ca1, rfl, sag0, sag1, sag2⟩ := rd_PendingInterest hrd
        have e0 : wr.cell? ⟨b, o + k * 3, none⟩ = some (.slice Aa0 (List.length x[k].1) ca0) := by simpa [Ty.sz] using hcell 0 (by decide)
        have e1 : wr.cell? ⟨b, o + k * 3 + 1, none⟩ = some (.slice Aa1 (List.length x[k].2.1) ca1) := by simpa [Ty.sz] using hcell 1 (by decide)
        have e2 : wr.cell? ⟨b, o + k * 3 + 2, none⟩ = some (.int .i64 x[k].2.2) := by simpa [Ty.sz] using hcell 2 (by decide)
        clear hcell hl
        go_wp2_with fail
        refine (C_laws_szPendingInterest _ _ _ r hrd hr0 (by omega)).mono ?_
        rintro e w1 ⟨r1, rfl, hr1, hb1⟩
        have hw1 : Below w.heap.size w w1 := bel_trans hb hb1
        rcases hr1 with rfl | ⟨p1, q1⟩
        · go_wp2
          go_ret
          exact ⟨-1, rfl, .inl rfl, hw1⟩
        · go_wp2
          go_roundw
          case rel => exact ⟨k + 1, r1, by omega, rfl, by go_num, p1, by rw [HS.out]; omega, hw1⟩
          case measure => simp [intOf]; omega
      · go_wp2
        go_ret
        rw [sum_take_all _ _ (by omega)] at hr
        exact ⟨r, rfl, .inr ⟨hr0, hr⟩, hb⟩

theorem info_PendingInterest : (Try.prog.info? 56).map (fun i => (i.zero, i.size, i.bytes)) = some (some (.agg #[.slice none 0 0, .slice none 0 0, .int .i64 0]), 3, 56) := by kernel_rfl
set_option maxHeartbeats 1000000 in
theorem C_laws_toPendingInterestS (w : World) (v : Value) (x : List (Ty.D tPendingInterest)) (h : (Ty.sl tPendingInterest).rd w [v] x) (hbk : Ty.bulk (.sl tPendingInterest) x ≤ 1048576) :
    Calls Try.prog 12 #[v] w (RetSl w tPendingInterest x) := by
  obtain ⟨A, c, rfl, hc, hm, hn⟩ := Ty.rd_sl h
  unfold maxLen at hm
  have h1 := Ty.bulk_len hbk
  have hmk := run_make_eq 31 56 info_PendingInterest Try.underlying31 x.length (by omega) (by omega)
  go_enter Try.func12, Try.ntmps12
  go_wp2_with fail
  clear hmk
  go_loopw [4] (fun i wr => ∃ (k : Nat), k ≤ x.length ∧ i = .int .i64 k ∧ ToInv tPendingInterest w.heap.size 56 x k wr ∧ Below w.heap.size w wr) (fun i _ => x.length - (intOf i).toNat)
  case atStart => exact ⟨0, by omega, rfl, ToInv.zero (Blk.new _ _ _) (by simp [size_madeCells, Ty.sz]), (Below.refl _ _).alloc (Nat.le_refl _) _⟩
  case round =>
    obtain ⟨k, hk, rfl, hinv, hb⟩ := hrel
    by_cases hlt : k < x.length
    · obtain ⟨b, o, ds, rfl, hl, hcell, hrd⟩ := Ty.rd_at (Ty.rd_below hb h) hlt
      obtain ⟨Aa0, ca0, Aa1, ca1, rfl, sag0, sag1, sag2⟩ := rd_PendingInterest hrd
      have e0 : wr.cell? ⟨b, o + k * 3, none⟩ = some (.slice Aa0 (List.length x[k].1) ca0) := by simpa [Ty.sz] using hcell 0 (by decide)
      have e1 : wr.cell? ⟨b, o + k * 3 + 1, none⟩ = some (.slice Aa1 (List.length x[k].2.1) ca1) := by simpa [Ty.sz] using hcell 1 (by decide)
      have e2 : wr.cell? ⟨b, o + k * 3 + 2, none⟩ = some (.int .i64 x[k].2.2) := by simpa [Ty.sz] using hcell 2 (by decide)
      clear hcell hl
      go_wp2_with fail
      refine (C_laws_toPendingInterest _ _ _ hrd (Ty.bulk_at hbk hlt)).mono ?_
      rintro e w1 ⟨cs1, fp1, rfl, how1, hfr1, hb1⟩
      obtain ⟨A0, c0, A1, c1, rfl⟩ := ow_PendingInterest how1
      have hw1 : Below w.heap.size w w1 := bel_trans hb hb1
      obtain ⟨cur, hblk, hsz⟩ := hinv.blk
      have hg := hblk.lt
      have hblk1 := hblk.below hb1 hg
      have hsz' : cur.size = x.length * 3 := hsz
      obtain ⟨old0, o0⟩ : ∃ v, w1.cell? ⟨w.heap.size, k * 3, none⟩ = some v := ⟨_, (hblk1.cell _).trans (Array.getElem?_eq_getElem (by omega))⟩
      have f0 : w1.frozen? ⟨w.heap.size, k * 3, none⟩ = false := hblk1.frozen _
      obtain ⟨old1, o1⟩ : ∃ v, w1.cell? ⟨w.heap.size, k * 3 + 1, none⟩ = some v := ⟨_, (hblk1.cell _).trans (Array.getElem?_eq_getElem (by omega))⟩
      have f1 : w1.frozen? ⟨w.heap.size, k * 3 + 1, none⟩ = false := hblk1.frozen _
      obtain ⟨old2, o2⟩ : ∃ v, w1.cell? ⟨w.heap.size, k * 3 + 2, none⟩ = some v := ⟨_, (hblk1.cell _).trans (Array.getElem?_eq_getElem (by omega))⟩
      have f2 : w1.frozen? ⟨w.heap.size, k * 3 + 2, none⟩ = false := hblk1.frozen _
      have HSZ := Lib.hid hsz
      clear hsz hsz' hblk
      go_wp2
      go_roundw
      case rel =>
        refine ⟨k + 1, by omega, by go_num, hinv.step hlt hb1 how1 hfr1 (fun b' hb' => ?_) (by simp) (fun cur' hb2 => ?_), (by repeat' (first | (with_reducible exact Below.refl _ _) | (with_reducible assumption) | (with_reducible refine bel_set ?_ (by (try dsimp only); omega) _) | (with_reducible refine bel_alloc ?_ _) | (with_reducible refine bel_drewN ?_ _) | (with_reducible refine bel_drew ?_)))⟩
        · repeat (rw [Below.heap_setCell _ _ _ _ hb'])
        · exact (((hb2.set_ (k * 3) _).set_ (k * 3 + 1) _).set_ (k * 3 + 2) _)
      case measure => simp [intOf]; omega
    · go_wp2
      go_ret
      obtain rfl : k = x.length := by omega
      obtain ⟨fp, q1, q2⟩ := hinv.done (w := w) (c := x.length) (Nat.le_refl _) (Nat.le_refl _) (by unfold maxLen; omega) hn
      exact ⟨_, _, fp, rfl, q1, q2, hb⟩

set_option maxHeartbeats 1000000 in
theorem C_laws_eqPendingInterestS (w : World) (v1 v2 : Value) (x : List (Ty.D tPendingInterest)) (h1 : (Ty.sl tPendingInterest).rd w [v1] x) (h2 : (Ty.sl tPendingInterest).rd w [v2] x) :
    Calls Try.prog 14 #[v1, v2] w (RetB w true) := by
  obtain ⟨A1, c1, rfl, hc1, hm1, hn1⟩ := Ty.rd_sl h1
  obtain ⟨A2, c2, rfl, hc2, hm2, hn2⟩ := Ty.rd_sl h2
  have hne : ((x.length : Int) != x.length) = false := by simp
  go_enter Try.func14, Try.ntmps14
  go_wp2
  go_loopw [5] (fun i wr => ∃ k : Nat, k ≤ x.length ∧ i = .int .i64 k ∧ Below w.heap.size w wr) (fun i _ => x.length - (intOf i).toNat)
  case atStart => exact ⟨0, by omega, rfl, Below.refl _ _⟩
  case round =>
    obtain ⟨k, hk, rfl, hb⟩ := hrel
    by_cases hlt : k < x.length
    · obtain ⟨b1, o1, ds1, rfl, hl1, hcell1, hrd1⟩ := Ty.rd_at (Ty.rd_below hb h1) hlt
      obtain ⟨Aa0, ca0, Aa1, ca1, rfl, sag0, sag1, sag2⟩ := rd_PendingInterest hrd1
      have e0 : wr.cell? ⟨b1, o1 + k * 3, none⟩ = some (.slice Aa0 (List.length x[k].1) ca0) := by simpa [Ty.sz] using hcell1 0 (by decide)
      have e1 : wr.cell? ⟨b1, o1 + k * 3 + 1, none⟩ = some (.slice Aa1 (List.length x[k].2.1) ca1) := by simpa [Ty.sz] using hcell1 1 (by decide)
      have e2 : wr.cell? ⟨b1, o1 + k * 3 + 2, none⟩ = some (.int .i64 x[k].2.2) := by simpa [Ty.sz] using hcell1 2 (by decide)
      clear hcell1 hl1
      obtain ⟨b2, o2, ds2, rfl, hl2, hcell2, hrd2⟩ := Ty.rd_at (Ty.rd_below hb h2) hlt
      obtain ⟨Ab0, cb0, Ab1, cb1, rfl, tbg0, tbg1, tbg2⟩ := rd_PendingInterest hrd2
      have d0 : wr.cell? ⟨b2, o2 + k * 3, none⟩ = some (.slice Ab0 (List.length x[k].1) cb0) := by simpa [Ty.sz] using hcell2 0 (by decide)
      have d1 : wr.cell? ⟨b2, o2 + k * 3 + 1, none⟩ = some (.slice Ab1 (List.length x[k].2.1) cb1) := by simpa [Ty.sz] using hcell2 1 (by decide)
      have d2 : wr.cell? ⟨b2, o2 + k * 3 + 2, none⟩ = some (.int .i64 x[k].2.2) := by simpa [Ty.sz] using hcell2 2 (by decide)
      clear hcell2 hl2
      go_wp2_with fail
      set_option maxRecDepth 100000 in go_still_tail 8, (by kernel_rfl)
      go_wp2_with fail
      refine (C_laws_eqPendingInterest _ _ _ _ (Ty.rd_below (by repeat' (first | (with_reducible exact Below.refl _ _) | (with_reducible assumption) | (with_reducible refine bel_set ?_ (by (try dsimp only); omega) _) | (with_reducible refine bel_alloc ?_ _) | (with_reducible refine bel_drewN ?_ _) | (with_reducible refine bel_drew ?_))) hrd1) (Ty.rd_below (by repeat' (first | (with_reducible exact Below.refl _ _) | (with_reducible assumption) | (with_reducible refine bel_set ?_ (by (try dsimp only); omega) _) | (with_reducible refine bel_alloc ?_ _) | (with_reducible refine bel_drewN ?_ _) | (with_reducible refine bel_drew ?_))) hrd2)).mono ?_
      rintro e w1 ⟨rfl, hb1⟩
      have hw1 : Below w.heap.size w w1 := bel_trans (bel_drew hb) hb1
      go_wp2
      go_roundw
      case rel => exact ⟨k + 1, by omega, by go_num, hw1⟩
      case measure => simp [intOf]; omega
    · go_wp2
      go_ret
      exact ⟨rfl, hb⟩

abbrev tTrustPolicy : Ty := (.pr (.sl tKey) (.pr (.sl tRule) (.pr (.sl (.sl .str)) (.sl tData))))
theorem rd_TrustPolicy {w : World} {cs : List Value} {x : tTrustPolicy.D} (h : tTrustPolicy.rd w cs x) : ∃ (A0 : Option Addr) (c0 : Nat) (A1 : Option Addr) (c1 : Nat) (A2 : Option Addr) (c2 : Nat) (A3 : Option Addr) (c3 : Nat), cs = [.slice A0 (List.length x.1) c0, .slice A1 (List.length x.2.1) c1, .slice A2 (List.length x.2.2.1) c2, .slice A3 (List.length x.2.2.2) c3] ∧ (Ty.rd w (.sl tKey) [.slice A0 (List.length x.1) c0] x.1) ∧ (Ty.rd w (.sl tRule) [.slice A1 (List.length x.2.1) c1] x.2.1) ∧ (Ty.rd w (.sl (.sl .str)) [.slice A2 (List.length x.2.2.1) c2] x.2.2.1) ∧ (Ty.rd w (.sl tData) [.slice A3 (List.length x.2.2.2) c3] x.2.2.2) := by
  obtain ⟨c0, r0, rfl, g0, q0⟩ := h
  obtain ⟨c1, r1, rfl, g1, q1⟩ := q0
  obtain ⟨c2, r2, rfl, g2, q2⟩ := q1
  have g3 := q2
  obtain ⟨A0, c0, rfl⟩ := Ty.rd_slv g0
  obtain ⟨A1, c1, rfl⟩ := Ty.rd_slv g1
  obtain ⟨A2, c2, rfl⟩ := Ty.rd_slv g2
  obtain ⟨A3, c3, rfl⟩ := Ty.rd_slv g3
  exact ⟨A0, c0, A1, c1, A2, c2, A3, c3, rfl, g0, g1, g2, g3⟩

theorem ow_TrustPolicy {w : World} {cs : List Value} {x : tTrustPolicy.D} {fp : List Nat} (h : tTrustPolicy.ow w cs x fp) : ∃ (A0 : Option Addr) (c0 : Nat) (A1 : Option Addr) (c1 : Nat) (A2 : Option Addr) (c2 : Nat) (A3 : Option Addr) (c3 : Nat), cs = [.slice A0 (List.length x.1) c0, .slice A1 (List.length x.2.1) c1, .slice A2 (List.length x.2.2.1) c2, .slice A3 (List.length x.2.2.2) c3] := by
  obtain ⟨c0, r0, f0, t0, rfl, _, g0, q0⟩ := h
  obtain ⟨c1, r1, f1, t1, rfl, _, g1, q1⟩ := q0
  obtain ⟨c2, r2, f2, t2, rfl, _, g2, q2⟩ := q1
  have g3 := q2
  obtain ⟨A0, c0, rfl⟩ := Ty.ow_slv g0
  obtain ⟨A1, c1, rfl⟩ := Ty.ow_slv g1
  obtain ⟨A2, c2, rfl⟩ := Ty.ow_slv g2
  obtain ⟨A3, c3, rfl⟩ := Ty.ow_slv g3
  exact ⟨A0, c0, A1, c1, A2, c2, A3, c3, rfl⟩

end Go.Proofs.Ytpjnidfdkggpfaa
