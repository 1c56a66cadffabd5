/- Copies of data. Printed by gen22.py. -/
import Derived.Test.YtemicfeiejfdkaaCpy
import Derived.Test.YtemicfeiejfdkaaNb
import Derived.Test.YtemicfeiejfdkaaRet
namespace Go.Proofs.Ytemicfeiejfdkaa
open Go.RowKit
set_option linter.unusedVariables false
set_option linter.unusedSimpArgs false

theorem data_parts {x : tData.D} {B : Nat} (s : Ty.bulk tData x ≤ B) : x.1.length ≤ B ∧ x.2.1.length ≤ B ∧ x.2.2.1.length ≤ B := by
  have h1 : Ty.bulk (.sl .str) x.1 + (Ty.bulk (.sl .byte) x.2.1 + (Ty.bulk (.sl .str) x.2.2.1 + (0 + 0))) ≤ B := s
  exact ⟨Ty.bulk_len (e := .str) (x := x.1) (n := B) (by omega), Ty.bulk_len (e := .byte) (x := x.2.1) (n := B) (by omega), Ty.bulk_len (e := .str) (x := x.2.2.1) (n := B) (by omega)⟩
/-- A datum's cells, owned part by part. -/
theorem ow_Data_mk {w : World} {x : tData.D} {A0 A1 A2 : Option Addr} {c0 c1 c2 : Nat} {f0 f1 f2 : List Nat} (h0 : (Ty.sl .str).ow w [.slice A0 (List.length x.1) c0] x.1 f0) (h1 : (Ty.sl .byte).ow w [.slice A1 (List.length x.2.1) c1] x.2.1 f1) (h2 : (Ty.sl .str).ow w [.slice A2 (List.length x.2.2.1) c2] x.2.2.1 f2)
    (b3 : -9223372036854775808 ≤ x.2.2.2.1 ∧ x.2.2.2.1 ≤ 9223372036854775807) (b4 : -9223372036854775808 ≤ x.2.2.2.2 ∧ x.2.2.2.2 ≤ 9223372036854775807) :
    tData.ow w [.slice A0 (List.length x.1) c0, .slice A1 (List.length x.2.1) c1, .slice A2 (List.length x.2.2.1) c2, .int .i64 x.2.2.2.1, .int .i64 x.2.2.2.2] x (f0 ++ (f1 ++ (f2 ++ ([] ++ [])))) :=
  ⟨[_], [_, _, _, _], f0, (f1 ++ (f2 ++ ([] ++ []))), rfl, rfl, h0, ⟨[_], [_, _, _], f1, (f2 ++ ([] ++ [])), rfl, rfl, h1, ⟨[_], [_, _], f2, ([] ++ []), rfl, rfl, h2, ⟨[_], [_], [], [], rfl, rfl, ⟨⟨rfl, b3⟩, rfl⟩, ⟨⟨rfl, b4⟩, rfl⟩⟩⟩⟩⟩
theorem fr3 {lo m1 m2 hi : Nat} {f0 f1 f2 : List Nat} (h0 : FrI lo m1 f0) (h1 : FrI m1 m2 f1) (h2 : FrI m2 hi f2) (l1 : lo ≤ m1) (l2 : m1 ≤ m2) (l3 : m2 ≤ hi) : FrI lo hi (f0 ++ (f1 ++ (f2 ++ ([] ++ [])))) :=
  FrI.app h0 (FrI.app h1 (FrI.app h2 (FrI.nil hi hi) (Nat.le_refl _) l3 (Nat.le_refl _)) (Nat.le_refl _) l2 (by omega)) (Nat.le_refl _) l1 (by omega)
set_option maxRecDepth 100000 in
set_option maxHeartbeats 2000000 in
theorem C_impl_copyData (w : World) (cs : List Value) (x : tData.D) (h : tData.rd w cs x) (s0 : Ty.bulk tData x ≤ 1000000000) :
    Calls Try.prog 85 #[.agg cs.toArray] w (RetAgg w tData x) := by
  obtain ⟨As0, cs0, As1, cs1, As2, cs2, rfl, sg0, sg1, sg2, sg3, sg4⟩ := rd_Data h
  obtain ⟨l0, l1, l2⟩ := data_parts s0
  go_enter Try.func85, Try.ntmps85
  go_wp2_with fail
  refine (C_impl_copyName _ _ x.1 (Ty.rd_below (by repeat' (first | (with_reducible exact Below.refl _ _) | (with_reducible assumption) | (with_reducible refine bel_set ?_ (by (try dsimp only); omega) _) | (with_reducible refine bel_alloc ?_ _) | (with_reducible refine bel_drewN ?_ _) | (with_reducible refine bel_drew ?_))) sg0) (by omega)).mono ?_
  rintro e w0 ⟨cs0, fp0, rfl, how0, hfr0, hb0⟩
  obtain ⟨A0, c0, rfl⟩ := Ty.ow_slv how0
  have hz0 := hb0.size
  simp only [World.size_alloc, World.size_setCell] at hz0
  have hw0 : Below w.heap.size w w0 := bel_trans (by repeat' (first | (with_reducible exact Below.refl _ _) | (with_reducible assumption) | (with_reducible refine bel_set ?_ (by (try dsimp only); omega) _) | (with_reducible refine bel_alloc ?_ _) | (with_reducible refine bel_drewN ?_ _) | (with_reducible refine bel_drew ?_))) hb0
  have hB0 : Blk w0 (w.heap.size) 50 #[.slice As0 (List.length x.1) cs0, .slice As1 (List.length x.2.1) cs1, .slice As2 (List.length x.2.2.1) cs2, .int .i64 x.2.2.2.1, .int .i64 x.2.2.2.2] := ((Blk.new w 50 #[.slice As0 (List.length x.1) cs0, .slice As1 (List.length x.2.1) cs1, .slice As2 (List.length x.2.2.1) cs2, .int .i64 x.2.2.2.1, .int .i64 x.2.2.2.2]).alloc _).below hb0 (by simp only [World.size_alloc]; omega)
  have hR0 : Blk w0 (w.heap.size + 1) 50 #[.slice none 0 0, .slice none 0 0, .slice none 0 0, .int .i64 0, .int .i64 0] := (show Blk ((w.alloc (.cells #[.slice As0 (List.length x.1) cs0, .slice As1 (List.length x.2.1) cs1, .slice As2 (List.length x.2.2.1) cs2, .int .i64 x.2.2.2.1, .int .i64 x.2.2.2.2] 50)).alloc (.cells #[.slice none 0 0, .slice none 0 0, .slice none 0 0, .int .i64 0, .int .i64 0] 50)) (w.heap.size + 1) 50 #[.slice none 0 0, .slice none 0 0, .slice none 0 0, .int .i64 0, .int .i64 0] from by have := Blk.new (w.alloc (.cells #[.slice As0 (List.length x.1) cs0, .slice As1 (List.length x.2.1) cs1, .slice As2 (List.length x.2.2.1) cs2, .int .i64 x.2.2.2.1, .int .i64 x.2.2.2.2] 50)) 50 #[.slice none 0 0, .slice none 0 0, .slice none 0 0, .int .i64 0, .int .i64 0]; rwa [World.size_alloc] at this).below hb0 (by simp only [World.size_alloc]; omega)
  have kB_0_0 : w0.cell? ⟨w.heap.size, 0, none⟩ = some (.slice As0 (List.length x.1) cs0) := hB0.cell 0
  have fB_0_0 : w0.frozen? ⟨w.heap.size, 0, none⟩ = false := hB0.frozen 0
  have kB_0_1 : w0.cell? ⟨w.heap.size, 1, none⟩ = some (.slice As1 (List.length x.2.1) cs1) := hB0.cell 1
  have fB_0_1 : w0.frozen? ⟨w.heap.size, 1, none⟩ = false := hB0.frozen 1
  have kB_0_2 : w0.cell? ⟨w.heap.size, 2, none⟩ = some (.slice As2 (List.length x.2.2.1) cs2) := hB0.cell 2
  have fB_0_2 : w0.frozen? ⟨w.heap.size, 2, none⟩ = false := hB0.frozen 2
  have kB_0_3 : w0.cell? ⟨w.heap.size, 3, none⟩ = some (.int .i64 x.2.2.2.1) := hB0.cell 3
  have fB_0_3 : w0.frozen? ⟨w.heap.size, 3, none⟩ = false := hB0.frozen 3
  have kB_0_4 : w0.cell? ⟨w.heap.size, 4, none⟩ = some (.int .i64 x.2.2.2.2) := hB0.cell 4
  have fB_0_4 : w0.frozen? ⟨w.heap.size, 4, none⟩ = false := hB0.frozen 4
  have zB_0 : w.heap.size < w0.heap.size := hB0.lt
  have kR_0_0 : w0.cell? ⟨w.heap.size + 1, 0, none⟩ = some (.slice none 0 0) := hR0.cell 0
  have fR_0_0 : w0.frozen? ⟨w.heap.size + 1, 0, none⟩ = false := hR0.frozen 0
  have kR_0_1 : w0.cell? ⟨w.heap.size + 1, 1, none⟩ = some (.slice none 0 0) := hR0.cell 1
  have fR_0_1 : w0.frozen? ⟨w.heap.size + 1, 1, none⟩ = false := hR0.frozen 1
  have kR_0_2 : w0.cell? ⟨w.heap.size + 1, 2, none⟩ = some (.slice none 0 0) := hR0.cell 2
  have fR_0_2 : w0.frozen? ⟨w.heap.size + 1, 2, none⟩ = false := hR0.frozen 2
  have kR_0_3 : w0.cell? ⟨w.heap.size + 1, 3, none⟩ = some (.int .i64 0) := hR0.cell 3
  have fR_0_3 : w0.frozen? ⟨w.heap.size + 1, 3, none⟩ = false := hR0.frozen 3
  have kR_0_4 : w0.cell? ⟨w.heap.size + 1, 4, none⟩ = some (.int .i64 0) := hR0.cell 4
  have fR_0_4 : w0.frozen? ⟨w.heap.size + 1, 4, none⟩ = false := hR0.frozen 4
  have zR_0 : w.heap.size + 1 < w0.heap.size := hR0.lt
  go_wp2_with fail
  refine (C_slices_Clone_byte _ _ x.2.1 (Ty.rd_below (bel_set hw0 (Nat.le_refl _) _) sg1) (by omega)).mono ?_
  rintro e w1 ⟨v1, rfl, hr1, hb1⟩
  obtain ⟨A1, c1, fp1, rfl, how1, hfr1⟩ := hr1.own hb1.size
  clear hr1
  have hz1 := hb1.size
  simp only [World.size_alloc, World.size_setCell] at hz1
  have hw1 : Below w.heap.size w w1 := bel_trans (by repeat' (first | (with_reducible exact Below.refl _ _) | (with_reducible assumption) | (with_reducible refine bel_set ?_ (by (try dsimp only); omega) _) | (with_reducible refine bel_alloc ?_ _) | (with_reducible refine bel_drewN ?_ _) | (with_reducible refine bel_drew ?_))) hb1
  clear kB_0_0 fB_0_0 kB_0_1 fB_0_1 kB_0_2 fB_0_2 kB_0_3 fB_0_3 kB_0_4 fB_0_4 kR_0_0 fR_0_0 kR_0_1 fR_0_1 kR_0_2 fR_0_2 kR_0_3 fR_0_3 kR_0_4 fR_0_4
  have hB1 : Blk w1 (w.heap.size) 50 #[.slice A0 (List.length x.1) c0, .slice As1 (List.length x.2.1) cs1, .slice As2 (List.length x.2.2.1) cs2, .int .i64 x.2.2.2.1, .int .i64 x.2.2.2.2] := (hB0.set_ 0 (.slice A0 (List.length x.1) c0)).below hb1 (by simp only [World.size_setCell]; omega)
  have hR1 : Blk w1 (w.heap.size + 1) 50 #[.slice none 0 0, .slice none 0 0, .slice none 0 0, .int .i64 0, .int .i64 0] := (hR0.far (by dsimp only; omega) (.slice A0 (List.length x.1) c0)).below hb1 (by simp only [World.size_setCell]; omega)
  have kB_1_0 : w1.cell? ⟨w.heap.size, 0, none⟩ = some (.slice A0 (List.length x.1) c0) := hB1.cell 0
  have fB_1_0 : w1.frozen? ⟨w.heap.size, 0, none⟩ = false := hB1.frozen 0
  have kB_1_1 : w1.cell? ⟨w.heap.size, 1, none⟩ = some (.slice As1 (List.length x.2.1) cs1) := hB1.cell 1
  have fB_1_1 : w1.frozen? ⟨w.heap.size, 1, none⟩ = false := hB1.frozen 1
  have kB_1_2 : w1.cell? ⟨w.heap.size, 2, none⟩ = some (.slice As2 (List.length x.2.2.1) cs2) := hB1.cell 2
  have fB_1_2 : w1.frozen? ⟨w.heap.size, 2, none⟩ = false := hB1.frozen 2
  have kB_1_3 : w1.cell? ⟨w.heap.size, 3, none⟩ = some (.int .i64 x.2.2.2.1) := hB1.cell 3
  have fB_1_3 : w1.frozen? ⟨w.heap.size, 3, none⟩ = false := hB1.frozen 3
  have kB_1_4 : w1.cell? ⟨w.heap.size, 4, none⟩ = some (.int .i64 x.2.2.2.2) := hB1.cell 4
  have fB_1_4 : w1.frozen? ⟨w.heap.size, 4, none⟩ = false := hB1.frozen 4
  have zB_1 : w.heap.size < w1.heap.size := hB1.lt
  have kR_1_0 : w1.cell? ⟨w.heap.size + 1, 0, none⟩ = some (.slice none 0 0) := hR1.cell 0
  have fR_1_0 : w1.frozen? ⟨w.heap.size + 1, 0, none⟩ = false := hR1.frozen 0
  have kR_1_1 : w1.cell? ⟨w.heap.size + 1, 1, none⟩ = some (.slice none 0 0) := hR1.cell 1
  have fR_1_1 : w1.frozen? ⟨w.heap.size + 1, 1, none⟩ = false := hR1.frozen 1
  have kR_1_2 : w1.cell? ⟨w.heap.size + 1, 2, none⟩ = some (.slice none 0 0) := hR1.cell 2
  have fR_1_2 : w1.frozen? ⟨w.heap.size + 1, 2, none⟩ = false := hR1.frozen 2
  have kR_1_3 : w1.cell? ⟨w.heap.size + 1, 3, none⟩ = some (.int .i64 0) := hR1.cell 3
  have fR_1_3 : w1.frozen? ⟨w.heap.size + 1, 3, none⟩ = false := hR1.frozen 3
  have kR_1_4 : w1.cell? ⟨w.heap.size + 1, 4, none⟩ = some (.int .i64 0) := hR1.cell 4
  have fR_1_4 : w1.frozen? ⟨w.heap.size + 1, 4, none⟩ = false := hR1.frozen 4
  have zR_1 : w.heap.size + 1 < w1.heap.size := hR1.lt
  go_wp2_with fail
  refine (C_impl_copyName _ _ x.2.2.1 (Ty.rd_below (bel_set hw1 (Nat.le_refl _) _) sg2) (by omega)).mono ?_
  rintro e w2 ⟨cs2, fp2, rfl, how2, hfr2, hb2⟩
  obtain ⟨A2, c2, rfl⟩ := Ty.ow_slv how2
  have hz2 := hb2.size
  simp only [World.size_alloc, World.size_setCell] at hz2
  have hw2 : Below w.heap.size w w2 := bel_trans (by repeat' (first | (with_reducible exact Below.refl _ _) | (with_reducible assumption) | (with_reducible refine bel_set ?_ (by (try dsimp only); omega) _) | (with_reducible refine bel_alloc ?_ _) | (with_reducible refine bel_drewN ?_ _) | (with_reducible refine bel_drew ?_))) hb2
  clear kB_1_0 fB_1_0 kB_1_1 fB_1_1 kB_1_2 fB_1_2 kB_1_3 fB_1_3 kB_1_4 fB_1_4 kR_1_0 fR_1_0 kR_1_1 fR_1_1 kR_1_2 fR_1_2 kR_1_3 fR_1_3 kR_1_4 fR_1_4
  have hB2 : Blk w2 (w.heap.size) 50 #[.slice A0 (List.length x.1) c0, .slice A1 (List.length x.2.1) c1, .slice As2 (List.length x.2.2.1) cs2, .int .i64 x.2.2.2.1, .int .i64 x.2.2.2.2] := (hB1.set_ 1 (.slice A1 (List.length x.2.1) c1)).below hb2 (by simp only [World.size_setCell]; omega)
  have hR2 : Blk w2 (w.heap.size + 1) 50 #[.slice none 0 0, .slice none 0 0, .slice none 0 0, .int .i64 0, .int .i64 0] := (hR1.far (by dsimp only; omega) (.slice A1 (List.length x.2.1) c1)).below hb2 (by simp only [World.size_setCell]; omega)
  have kB_2_0 : w2.cell? ⟨w.heap.size, 0, none⟩ = some (.slice A0 (List.length x.1) c0) := hB2.cell 0
  have fB_2_0 : w2.frozen? ⟨w.heap.size, 0, none⟩ = false := hB2.frozen 0
  have kB_2_1 : w2.cell? ⟨w.heap.size, 1, none⟩ = some (.slice A1 (List.length x.2.1) c1) := hB2.cell 1
  have fB_2_1 : w2.frozen? ⟨w.heap.size, 1, none⟩ = false := hB2.frozen 1
  have kB_2_2 : w2.cell? ⟨w.heap.size, 2, none⟩ = some (.slice As2 (List.length x.2.2.1) cs2) := hB2.cell 2
  have fB_2_2 : w2.frozen? ⟨w.heap.size, 2, none⟩ = false := hB2.frozen 2
  have kB_2_3 : w2.cell? ⟨w.heap.size, 3, none⟩ = some (.int .i64 x.2.2.2.1) := hB2.cell 3
  have fB_2_3 : w2.frozen? ⟨w.heap.size, 3, none⟩ = false := hB2.frozen 3
  have kB_2_4 : w2.cell? ⟨w.heap.size, 4, none⟩ = some (.int .i64 x.2.2.2.2) := hB2.cell 4
  have fB_2_4 : w2.frozen? ⟨w.heap.size, 4, none⟩ = false := hB2.frozen 4
  have zB_2 : w.heap.size < w2.heap.size := hB2.lt
  have kR_2_0 : w2.cell? ⟨w.heap.size + 1, 0, none⟩ = some (.slice none 0 0) := hR2.cell 0
  have fR_2_0 : w2.frozen? ⟨w.heap.size + 1, 0, none⟩ = false := hR2.frozen 0
  have kR_2_1 : w2.cell? ⟨w.heap.size + 1, 1, none⟩ = some (.slice none 0 0) := hR2.cell 1
  have fR_2_1 : w2.frozen? ⟨w.heap.size + 1, 1, none⟩ = false := hR2.frozen 1
  have kR_2_2 : w2.cell? ⟨w.heap.size + 1, 2, none⟩ = some (.slice none 0 0) := hR2.cell 2
  have fR_2_2 : w2.frozen? ⟨w.heap.size + 1, 2, none⟩ = false := hR2.frozen 2
  have kR_2_3 : w2.cell? ⟨w.heap.size + 1, 3, none⟩ = some (.int .i64 0) := hR2.cell 3
  have fR_2_3 : w2.frozen? ⟨w.heap.size + 1, 3, none⟩ = false := hR2.frozen 3
  have kR_2_4 : w2.cell? ⟨w.heap.size + 1, 4, none⟩ = some (.int .i64 0) := hR2.cell 4
  have fR_2_4 : w2.frozen? ⟨w.heap.size + 1, 4, none⟩ = false := hR2.frozen 4
  have zR_2 : w.heap.size + 1 < w2.heap.size := hR2.lt
  go_wp2
  refine bodyPost_ret (v := .agg #[.slice A0 (List.length x.1) c0, .slice A1 (List.length x.2.1) c1, .slice A2 (List.length x.2.2.1) c2, .int .i64 x.2.2.2.1, .int .i64 x.2.2.2.2]) (by simp [results, Try.results85, go_sem, kB_2_0, kB_2_1, kB_2_2, kB_2_3, kB_2_4, kR_2_0, kR_2_1, kR_2_2, kR_2_3, kR_2_4, fB_2_0, fB_2_1, fB_2_2, fB_2_3, fB_2_4, fR_2_0, fR_2_1, fR_2_2, fR_2_3, fR_2_4]) rfl ?_
  exact ⟨_, _, rfl, ow_Data_mk (Ty.ow_keep (by intro b hb'; have hb'' := (hfr0).2 b hb'; (try simp only [World.size_alloc, World.size_setCell, size_drewN, World.size_drew] at hb''); repeat (first | (with_reducible rfl) | (rw [Below.heap_setCell _ _ _ _ (by (try dsimp only); omega)]) | (rw [Below.heap_alloc _ _ _ (by simp only [World.size_alloc, World.size_setCell]; omega)]) | (rw [hb1.block _ (by simp only [World.size_alloc, World.size_setCell, size_drewN, World.size_drew]; omega)]) | (rw [hb2.block _ (by simp only [World.size_alloc, World.size_setCell, size_drewN, World.size_drew]; omega)]))) how0) (Ty.ow_keep (by intro b hb'; have hb'' := (hfr1).2 b hb'; (try simp only [World.size_alloc, World.size_setCell, size_drewN, World.size_drew] at hb''); repeat (first | (with_reducible rfl) | (rw [Below.heap_setCell _ _ _ _ (by (try dsimp only); omega)]) | (rw [Below.heap_alloc _ _ _ (by simp only [World.size_alloc, World.size_setCell]; omega)]) | (rw [hb2.block _ (by simp only [World.size_alloc, World.size_setCell, size_drewN, World.size_drew]; omega)]))) how1) (Ty.ow_keep (by intro b hb'; have hb'' := (hfr2).2 b hb'; (try simp only [World.size_alloc, World.size_setCell, size_drewN, World.size_drew] at hb''); repeat (first | (with_reducible rfl) | (rw [Below.heap_setCell _ _ _ _ (by (try dsimp only); omega)]) | (rw [Below.heap_alloc _ _ _ (by simp only [World.size_alloc, World.size_setCell]; omega)]))) how2) sg3 sg4, (fr3 (m1 := w0.heap.size) (m2 := w1.heap.size) (hfr0.mono (by (try simp only [World.size_alloc, World.size_setCell, size_drewN, World.size_drew]); omega) (Nat.le_refl _)) (hfr1.mono (by (try simp only [World.size_alloc, World.size_setCell]); omega) (Nat.le_refl _)) (hfr2.mono (by (try simp only [World.size_alloc, World.size_setCell]); omega) (by (try simp only [World.size_alloc, World.size_setCell, size_drewN, World.size_drew]); omega)) (by (try simp only [World.size_alloc, World.size_setCell, size_drewN, World.size_drew]); omega) (by (try simp only [World.size_alloc, World.size_setCell, size_drewN, World.size_drew]); omega) (by (try simp only [World.size_alloc, World.size_setCell, size_drewN, World.size_drew]); omega)), bel_trans (by repeat' (first | (with_reducible exact Below.refl _ _) | (with_reducible assumption) | (with_reducible refine bel_set ?_ (by (try dsimp only); omega) _) | (with_reducible refine bel_alloc ?_ _) | (with_reducible refine bel_drewN ?_ _) | (with_reducible refine bel_drew ?_))) (Below.refl _ _)⟩
set_option maxRecDepth 100000 in
set_option maxHeartbeats 2000000 in
theorem C_spec_l8Copy (w : World) (cs : List Value) (x : tData.D) (h : tData.rd w cs x) (s0 : Ty.bulk tData x ≤ 1000000000) :
    Calls Try.prog 78 #[.agg cs.toArray] w (RetAgg w tData x) := by
  obtain ⟨As0, cs0, As1, cs1, As2, cs2, rfl, sg0, sg1, sg2, sg3, sg4⟩ := rd_Data h
  obtain ⟨l0, l1, l2⟩ := data_parts s0
  go_enter Try.func78, Try.ntmps78
  go_wp2_with fail
  refine (C_spec_l4Copy _ _ x.1 (Ty.rd_below (by repeat' (first | (with_reducible exact Below.refl _ _) | (with_reducible assumption) | (with_reducible refine bel_set ?_ (by (try dsimp only); omega) _) | (with_reducible refine bel_alloc ?_ _) | (with_reducible refine bel_drewN ?_ _) | (with_reducible refine bel_drew ?_))) sg0) (by omega)).mono ?_
  rintro e w0 ⟨cs0, fp0, rfl, how0, hfr0, hb0⟩
  obtain ⟨A0, c0, rfl⟩ := Ty.ow_slv how0
  have hz0 := hb0.size
  simp only [World.size_alloc, World.size_setCell] at hz0
  have hw0 : Below w.heap.size w w0 := bel_trans (by repeat' (first | (with_reducible exact Below.refl _ _) | (with_reducible assumption) | (with_reducible refine bel_set ?_ (by (try dsimp only); omega) _) | (with_reducible refine bel_alloc ?_ _) | (with_reducible refine bel_drewN ?_ _) | (with_reducible refine bel_drew ?_))) hb0
  have hB0 : Blk w0 (w.heap.size) 50 #[.slice As0 (List.length x.1) cs0, .slice As1 (List.length x.2.1) cs1, .slice As2 (List.length x.2.2.1) cs2, .int .i64 x.2.2.2.1, .int .i64 x.2.2.2.2] := (((Blk.new w 50 #[.slice As0 (List.length x.1) cs0, .slice As1 (List.length x.2.1) cs1, .slice As2 (List.length x.2.2.1) cs2, .int .i64 x.2.2.2.1, .int .i64 x.2.2.2.2]).alloc _).alloc _).below hb0 (by simp only [World.size_alloc]; omega)
  have hR0 : Blk w0 (w.heap.size + 1) 50 #[.slice none 0 0, .slice none 0 0, .slice none 0 0, .int .i64 0, .int .i64 0] := ((show Blk ((w.alloc (.cells #[.slice As0 (List.length x.1) cs0, .slice As1 (List.length x.2.1) cs1, .slice As2 (List.length x.2.2.1) cs2, .int .i64 x.2.2.2.1, .int .i64 x.2.2.2.2] 50)).alloc (.cells #[.slice none 0 0, .slice none 0 0, .slice none 0 0, .int .i64 0, .int .i64 0] 50)) (w.heap.size + 1) 50 #[.slice none 0 0, .slice none 0 0, .slice none 0 0, .int .i64 0, .int .i64 0] from by have := Blk.new (w.alloc (.cells #[.slice As0 (List.length x.1) cs0, .slice As1 (List.length x.2.1) cs1, .slice As2 (List.length x.2.2.1) cs2, .int .i64 x.2.2.2.1, .int .i64 x.2.2.2.2] 50)) 50 #[.slice none 0 0, .slice none 0 0, .slice none 0 0, .int .i64 0, .int .i64 0]; rwa [World.size_alloc] at this).alloc _).below hb0 (by simp only [World.size_alloc]; omega)
  have hO0 : Blk w0 (w.heap.size + 1 + 1) 50 #[.slice As0 (List.length x.1) cs0, .slice As1 (List.length x.2.1) cs1, .slice As2 (List.length x.2.2.1) cs2, .int .i64 x.2.2.2.1, .int .i64 x.2.2.2.2] := (show Blk (((w.alloc (.cells #[.slice As0 (List.length x.1) cs0, .slice As1 (List.length x.2.1) cs1, .slice As2 (List.length x.2.2.1) cs2, .int .i64 x.2.2.2.1, .int .i64 x.2.2.2.2] 50)).alloc (.cells #[.slice none 0 0, .slice none 0 0, .slice none 0 0, .int .i64 0, .int .i64 0] 50)).alloc (.cells #[.slice As0 (List.length x.1) cs0, .slice As1 (List.length x.2.1) cs1, .slice As2 (List.length x.2.2.1) cs2, .int .i64 x.2.2.2.1, .int .i64 x.2.2.2.2] 50)) (w.heap.size + 1 + 1) 50 #[.slice As0 (List.length x.1) cs0, .slice As1 (List.length x.2.1) cs1, .slice As2 (List.length x.2.2.1) cs2, .int .i64 x.2.2.2.1, .int .i64 x.2.2.2.2] from by have := Blk.new ((w.alloc (.cells #[.slice As0 (List.length x.1) cs0, .slice As1 (List.length x.2.1) cs1, .slice As2 (List.length x.2.2.1) cs2, .int .i64 x.2.2.2.1, .int .i64 x.2.2.2.2] 50)).alloc (.cells #[.slice none 0 0, .slice none 0 0, .slice none 0 0, .int .i64 0, .int .i64 0] 50)) 50 #[.slice As0 (List.length x.1) cs0, .slice As1 (List.length x.2.1) cs1, .slice As2 (List.length x.2.2.1) cs2, .int .i64 x.2.2.2.1, .int .i64 x.2.2.2.2]; rwa [World.size_alloc, World.size_alloc] at this).below hb0 (by simp only [World.size_alloc]; omega)
  have kB_0_0 : w0.cell? ⟨w.heap.size, 0, none⟩ = some (.slice As0 (List.length x.1) cs0) := hB0.cell 0
  have fB_0_0 : w0.frozen? ⟨w.heap.size, 0, none⟩ = false := hB0.frozen 0
  have kB_0_1 : w0.cell? ⟨w.heap.size, 1, none⟩ = some (.slice As1 (List.length x.2.1) cs1) := hB0.cell 1
  have fB_0_1 : w0.frozen? ⟨w.heap.size, 1, none⟩ = false := hB0.frozen 1
  have kB_0_2 : w0.cell? ⟨w.heap.size, 2, none⟩ = some (.slice As2 (List.length x.2.2.1) cs2) := hB0.cell 2
  have fB_0_2 : w0.frozen? ⟨w.heap.size, 2, none⟩ = false := hB0.frozen 2
  have kB_0_3 : w0.cell? ⟨w.heap.size, 3, none⟩ = some (.int .i64 x.2.2.2.1) := hB0.cell 3
  have fB_0_3 : w0.frozen? ⟨w.heap.size, 3, none⟩ = false := hB0.frozen 3
  have kB_0_4 : w0.cell? ⟨w.heap.size, 4, none⟩ = some (.int .i64 x.2.2.2.2) := hB0.cell 4
  have fB_0_4 : w0.frozen? ⟨w.heap.size, 4, none⟩ = false := hB0.frozen 4
  have zB_0 : w.heap.size < w0.heap.size := hB0.lt
  have kR_0_0 : w0.cell? ⟨w.heap.size + 1, 0, none⟩ = some (.slice none 0 0) := hR0.cell 0
  have fR_0_0 : w0.frozen? ⟨w.heap.size + 1, 0, none⟩ = false := hR0.frozen 0
  have kR_0_1 : w0.cell? ⟨w.heap.size + 1, 1, none⟩ = some (.slice none 0 0) := hR0.cell 1
  have fR_0_1 : w0.frozen? ⟨w.heap.size + 1, 1, none⟩ = false := hR0.frozen 1
  have kR_0_2 : w0.cell? ⟨w.heap.size + 1, 2, none⟩ = some (.slice none 0 0) := hR0.cell 2
  have fR_0_2 : w0.frozen? ⟨w.heap.size + 1, 2, none⟩ = false := hR0.frozen 2
  have kR_0_3 : w0.cell? ⟨w.heap.size + 1, 3, none⟩ = some (.int .i64 0) := hR0.cell 3
  have fR_0_3 : w0.frozen? ⟨w.heap.size + 1, 3, none⟩ = false := hR0.frozen 3
  have kR_0_4 : w0.cell? ⟨w.heap.size + 1, 4, none⟩ = some (.int .i64 0) := hR0.cell 4
  have fR_0_4 : w0.frozen? ⟨w.heap.size + 1, 4, none⟩ = false := hR0.frozen 4
  have zR_0 : w.heap.size + 1 < w0.heap.size := hR0.lt
  have kO_0_0 : w0.cell? ⟨w.heap.size + 1 + 1, 0, none⟩ = some (.slice As0 (List.length x.1) cs0) := hO0.cell 0
  have fO_0_0 : w0.frozen? ⟨w.heap.size + 1 + 1, 0, none⟩ = false := hO0.frozen 0
  have kO_0_1 : w0.cell? ⟨w.heap.size + 1 + 1, 1, none⟩ = some (.slice As1 (List.length x.2.1) cs1) := hO0.cell 1
  have fO_0_1 : w0.frozen? ⟨w.heap.size + 1 + 1, 1, none⟩ = false := hO0.frozen 1
  have kO_0_2 : w0.cell? ⟨w.heap.size + 1 + 1, 2, none⟩ = some (.slice As2 (List.length x.2.2.1) cs2) := hO0.cell 2
  have fO_0_2 : w0.frozen? ⟨w.heap.size + 1 + 1, 2, none⟩ = false := hO0.frozen 2
  have kO_0_3 : w0.cell? ⟨w.heap.size + 1 + 1, 3, none⟩ = some (.int .i64 x.2.2.2.1) := hO0.cell 3
  have fO_0_3 : w0.frozen? ⟨w.heap.size + 1 + 1, 3, none⟩ = false := hO0.frozen 3
  have kO_0_4 : w0.cell? ⟨w.heap.size + 1 + 1, 4, none⟩ = some (.int .i64 x.2.2.2.2) := hO0.cell 4
  have fO_0_4 : w0.frozen? ⟨w.heap.size + 1 + 1, 4, none⟩ = false := hO0.frozen 4
  have zO_0 : w.heap.size + 1 + 1 < w0.heap.size := hO0.lt
  have HL0 : Hid (Row flatB ((w0.setCell ⟨w.heap.size + 1 + 1, 0, none⟩ (.slice A0 (List.length x.1) c0)).alloc (.cells #[] 5)) w0.heap.size 5 (.slice (some ⟨w0.heap.size, 0, none⟩) 0 0) []) := by
    have := Row.lit0 flatB (w0.setCell ⟨w.heap.size + 1 + 1, 0, none⟩ (.slice A0 (List.length x.1) c0)) 5 (Nat.le_refl _)
    simp only [World.size_setCell] at this
    exact Lib.hid this
  go_wp2_with (at_builtin; go_loud (refine wpList_append_row rfl _ _ 48 rfl flatB w0.heap.size 5 infoB rfl Try.underlying48 _ _ [] x.2.1 rfl rfl HL0.out (Ty.rd_below (bel_alloc (bel_set hw0 (by dsimp only; omega) _) _) sg1) ?_ ?_ ?_ ?_))
  case refine_1 => simp only [List.length_nil]; omega
  case refine_2 => simp only [List.length_nil]; unfold maxLen; omega
  case refine_3 => simp only [World.size_alloc, World.size_setCell]; omega
  intro v1 w1 hr1 hg1
  have hr1' : Row flatB w1 w0.heap.size 5 v1 x.2.1 := hr1
  have hb1 : Below (w0.setCell ⟨w.heap.size + 1 + 1, 0, none⟩ (.slice A0 (List.length x.1) c0)).heap.size (w0.setCell ⟨w.heap.size + 1 + 1, 0, none⟩ (.slice A0 (List.length x.1) c0)) w1 := bel_grown (bel_alloc (Below.refl _ _) _) (by simp only [World.size_alloc, World.size_setCell]; omega) hg1 (fun g hg => by simp [Value.ownBlock] at hg; simp only [World.size_setCell]; omega)
  obtain ⟨A1, c1, fp1, rfl, how1, hfr1⟩ := hr1'.own (by have := hb1.size; simp only [World.size_setCell] at this; exact this)
  clear hr1 hr1' hg1 HL0
  have hz1 := hb1.size
  simp only [World.size_alloc, World.size_setCell] at hz1
  have hw1 : Below w.heap.size w w1 := bel_trans (by repeat' (first | (with_reducible exact Below.refl _ _) | (with_reducible assumption) | (with_reducible refine bel_set ?_ (by (try dsimp only); omega) _) | (with_reducible refine bel_alloc ?_ _) | (with_reducible refine bel_drewN ?_ _) | (with_reducible refine bel_drew ?_))) hb1
  clear kB_0_0 fB_0_0 kB_0_1 fB_0_1 kB_0_2 fB_0_2 kB_0_3 fB_0_3 kB_0_4 fB_0_4 kR_0_0 fR_0_0 kR_0_1 fR_0_1 kR_0_2 fR_0_2 kR_0_3 fR_0_3 kR_0_4 fR_0_4 kO_0_0 fO_0_0 kO_0_1 fO_0_1 kO_0_2 fO_0_2 kO_0_3 fO_0_3 kO_0_4 fO_0_4
  have hB1 : Blk w1 (w.heap.size) 50 #[.slice As0 (List.length x.1) cs0, .slice As1 (List.length x.2.1) cs1, .slice As2 (List.length x.2.2.1) cs2, .int .i64 x.2.2.2.1, .int .i64 x.2.2.2.2] := (hB0.far (by dsimp only; omega) (.slice A0 (List.length x.1) c0)).below hb1 (by simp only [World.size_setCell]; omega)
  have hR1 : Blk w1 (w.heap.size + 1) 50 #[.slice none 0 0, .slice none 0 0, .slice none 0 0, .int .i64 0, .int .i64 0] := (hR0.far (by dsimp only; omega) (.slice A0 (List.length x.1) c0)).below hb1 (by simp only [World.size_setCell]; omega)
  have hO1 : Blk w1 (w.heap.size + 1 + 1) 50 #[.slice A0 (List.length x.1) c0, .slice As1 (List.length x.2.1) cs1, .slice As2 (List.length x.2.2.1) cs2, .int .i64 x.2.2.2.1, .int .i64 x.2.2.2.2] := (hO0.set_ 0 (.slice A0 (List.length x.1) c0)).below hb1 (by simp only [World.size_setCell]; omega)
  have kB_1_0 : w1.cell? ⟨w.heap.size, 0, none⟩ = some (.slice As0 (List.length x.1) cs0) := hB1.cell 0
  have fB_1_0 : w1.frozen? ⟨w.heap.size, 0, none⟩ = false := hB1.frozen 0
  have kB_1_1 : w1.cell? ⟨w.heap.size, 1, none⟩ = some (.slice As1 (List.length x.2.1) cs1) := hB1.cell 1
  have fB_1_1 : w1.frozen? ⟨w.heap.size, 1, none⟩ = false := hB1.frozen 1
  have kB_1_2 : w1.cell? ⟨w.heap.size, 2, none⟩ = some (.slice As2 (List.length x.2.2.1) cs2) := hB1.cell 2
  have fB_1_2 : w1.frozen? ⟨w.heap.size, 2, none⟩ = false := hB1.frozen 2
  have kB_1_3 : w1.cell? ⟨w.heap.size, 3, none⟩ = some (.int .i64 x.2.2.2.1) := hB1.cell 3
  have fB_1_3 : w1.frozen? ⟨w.heap.size, 3, none⟩ = false := hB1.frozen 3
  have kB_1_4 : w1.cell? ⟨w.heap.size, 4, none⟩ = some (.int .i64 x.2.2.2.2) := hB1.cell 4
  have fB_1_4 : w1.frozen? ⟨w.heap.size, 4, none⟩ = false := hB1.frozen 4
  have zB_1 : w.heap.size < w1.heap.size := hB1.lt
  have kR_1_0 : w1.cell? ⟨w.heap.size + 1, 0, none⟩ = some (.slice none 0 0) := hR1.cell 0
  have fR_1_0 : w1.frozen? ⟨w.heap.size + 1, 0, none⟩ = false := hR1.frozen 0
  have kR_1_1 : w1.cell? ⟨w.heap.size + 1, 1, none⟩ = some (.slice none 0 0) := hR1.cell 1
  have fR_1_1 : w1.frozen? ⟨w.heap.size + 1, 1, none⟩ = false := hR1.frozen 1
  have kR_1_2 : w1.cell? ⟨w.heap.size + 1, 2, none⟩ = some (.slice none 0 0) := hR1.cell 2
  have fR_1_2 : w1.frozen? ⟨w.heap.size + 1, 2, none⟩ = false := hR1.frozen 2
  have kR_1_3 : w1.cell? ⟨w.heap.size + 1, 3, none⟩ = some (.int .i64 0) := hR1.cell 3
  have fR_1_3 : w1.frozen? ⟨w.heap.size + 1, 3, none⟩ = false := hR1.frozen 3
  have kR_1_4 : w1.cell? ⟨w.heap.size + 1, 4, none⟩ = some (.int .i64 0) := hR1.cell 4
  have fR_1_4 : w1.frozen? ⟨w.heap.size + 1, 4, none⟩ = false := hR1.frozen 4
  have zR_1 : w.heap.size + 1 < w1.heap.size := hR1.lt
  have kO_1_0 : w1.cell? ⟨w.heap.size + 1 + 1, 0, none⟩ = some (.slice A0 (List.length x.1) c0) := hO1.cell 0
  have fO_1_0 : w1.frozen? ⟨w.heap.size + 1 + 1, 0, none⟩ = false := hO1.frozen 0
  have kO_1_1 : w1.cell? ⟨w.heap.size + 1 + 1, 1, none⟩ = some (.slice As1 (List.length x.2.1) cs1) := hO1.cell 1
  have fO_1_1 : w1.frozen? ⟨w.heap.size + 1 + 1, 1, none⟩ = false := hO1.frozen 1
  have kO_1_2 : w1.cell? ⟨w.heap.size + 1 + 1, 2, none⟩ = some (.slice As2 (List.length x.2.2.1) cs2) := hO1.cell 2
  have fO_1_2 : w1.frozen? ⟨w.heap.size + 1 + 1, 2, none⟩ = false := hO1.frozen 2
  have kO_1_3 : w1.cell? ⟨w.heap.size + 1 + 1, 3, none⟩ = some (.int .i64 x.2.2.2.1) := hO1.cell 3
  have fO_1_3 : w1.frozen? ⟨w.heap.size + 1 + 1, 3, none⟩ = false := hO1.frozen 3
  have kO_1_4 : w1.cell? ⟨w.heap.size + 1 + 1, 4, none⟩ = some (.int .i64 x.2.2.2.2) := hO1.cell 4
  have fO_1_4 : w1.frozen? ⟨w.heap.size + 1 + 1, 4, none⟩ = false := hO1.frozen 4
  have zO_1 : w.heap.size + 1 + 1 < w1.heap.size := hO1.lt
  go_wp2_with fail
  refine (C_spec_l4Copy _ _ x.2.2.1 (Ty.rd_below (bel_set hw1 (by dsimp only; omega) _) sg2) (by omega)).mono ?_
  rintro e w2 ⟨cs2, fp2, rfl, how2, hfr2, hb2⟩
  obtain ⟨A2, c2, rfl⟩ := Ty.ow_slv how2
  have hz2 := hb2.size
  simp only [World.size_alloc, World.size_setCell] at hz2
  have hw2 : Below w.heap.size w w2 := bel_trans (by repeat' (first | (with_reducible exact Below.refl _ _) | (with_reducible assumption) | (with_reducible refine bel_set ?_ (by (try dsimp only); omega) _) | (with_reducible refine bel_alloc ?_ _) | (with_reducible refine bel_drewN ?_ _) | (with_reducible refine bel_drew ?_))) hb2
  clear kB_1_0 fB_1_0 kB_1_1 fB_1_1 kB_1_2 fB_1_2 kB_1_3 fB_1_3 kB_1_4 fB_1_4 kR_1_0 fR_1_0 kR_1_1 fR_1_1 kR_1_2 fR_1_2 kR_1_3 fR_1_3 kR_1_4 fR_1_4 kO_1_0 fO_1_0 kO_1_1 fO_1_1 kO_1_2 fO_1_2 kO_1_3 fO_1_3 kO_1_4 fO_1_4
  have hB2 : Blk w2 (w.heap.size) 50 #[.slice As0 (List.length x.1) cs0, .slice As1 (List.length x.2.1) cs1, .slice As2 (List.length x.2.2.1) cs2, .int .i64 x.2.2.2.1, .int .i64 x.2.2.2.2] := (hB1.far (by dsimp only; omega) (.slice A1 (List.length x.2.1) c1)).below hb2 (by simp only [World.size_setCell]; omega)
  have hR2 : Blk w2 (w.heap.size + 1) 50 #[.slice none 0 0, .slice none 0 0, .slice none 0 0, .int .i64 0, .int .i64 0] := (hR1.far (by dsimp only; omega) (.slice A1 (List.length x.2.1) c1)).below hb2 (by simp only [World.size_setCell]; omega)
  have hO2 : Blk w2 (w.heap.size + 1 + 1) 50 #[.slice A0 (List.length x.1) c0, .slice A1 (List.length x.2.1) c1, .slice As2 (List.length x.2.2.1) cs2, .int .i64 x.2.2.2.1, .int .i64 x.2.2.2.2] := (hO1.set_ 1 (.slice A1 (List.length x.2.1) c1)).below hb2 (by simp only [World.size_setCell]; omega)
  have kB_2_0 : w2.cell? ⟨w.heap.size, 0, none⟩ = some (.slice As0 (List.length x.1) cs0) := hB2.cell 0
  have fB_2_0 : w2.frozen? ⟨w.heap.size, 0, none⟩ = false := hB2.frozen 0
  have kB_2_1 : w2.cell? ⟨w.heap.size, 1, none⟩ = some (.slice As1 (List.length x.2.1) cs1) := hB2.cell 1
  have fB_2_1 : w2.frozen? ⟨w.heap.size, 1, none⟩ = false := hB2.frozen 1
  have kB_2_2 : w2.cell? ⟨w.heap.size, 2, none⟩ = some (.slice As2 (List.length x.2.2.1) cs2) := hB2.cell 2
  have fB_2_2 : w2.frozen? ⟨w.heap.size, 2, none⟩ = false := hB2.frozen 2
  have kB_2_3 : w2.cell? ⟨w.heap.size, 3, none⟩ = some (.int .i64 x.2.2.2.1) := hB2.cell 3
  have fB_2_3 : w2.frozen? ⟨w.heap.size, 3, none⟩ = false := hB2.frozen 3
  have kB_2_4 : w2.cell? ⟨w.heap.size, 4, none⟩ = some (.int .i64 x.2.2.2.2) := hB2.cell 4
  have fB_2_4 : w2.frozen? ⟨w.heap.size, 4, none⟩ = false := hB2.frozen 4
  have zB_2 : w.heap.size < w2.heap.size := hB2.lt
  have kR_2_0 : w2.cell? ⟨w.heap.size + 1, 0, none⟩ = some (.slice none 0 0) := hR2.cell 0
  have fR_2_0 : w2.frozen? ⟨w.heap.size + 1, 0, none⟩ = false := hR2.frozen 0
  have kR_2_1 : w2.cell? ⟨w.heap.size + 1, 1, none⟩ = some (.slice none 0 0) := hR2.cell 1
  have fR_2_1 : w2.frozen? ⟨w.heap.size + 1, 1, none⟩ = false := hR2.frozen 1
  have kR_2_2 : w2.cell? ⟨w.heap.size + 1, 2, none⟩ = some (.slice none 0 0) := hR2.cell 2
  have fR_2_2 : w2.frozen? ⟨w.heap.size + 1, 2, none⟩ = false := hR2.frozen 2
  have kR_2_3 : w2.cell? ⟨w.heap.size + 1, 3, none⟩ = some (.int .i64 0) := hR2.cell 3
  have fR_2_3 : w2.frozen? ⟨w.heap.size + 1, 3, none⟩ = false := hR2.frozen 3
  have kR_2_4 : w2.cell? ⟨w.heap.size + 1, 4, none⟩ = some (.int .i64 0) := hR2.cell 4
  have fR_2_4 : w2.frozen? ⟨w.heap.size + 1, 4, none⟩ = false := hR2.frozen 4
  have zR_2 : w.heap.size + 1 < w2.heap.size := hR2.lt
  have kO_2_0 : w2.cell? ⟨w.heap.size + 1 + 1, 0, none⟩ = some (.slice A0 (List.length x.1) c0) := hO2.cell 0
  have fO_2_0 : w2.frozen? ⟨w.heap.size + 1 + 1, 0, none⟩ = false := hO2.frozen 0
  have kO_2_1 : w2.cell? ⟨w.heap.size + 1 + 1, 1, none⟩ = some (.slice A1 (List.length x.2.1) c1) := hO2.cell 1
  have fO_2_1 : w2.frozen? ⟨w.heap.size + 1 + 1, 1, none⟩ = false := hO2.frozen 1
  have kO_2_2 : w2.cell? ⟨w.heap.size + 1 + 1, 2, none⟩ = some (.slice As2 (List.length x.2.2.1) cs2) := hO2.cell 2
  have fO_2_2 : w2.frozen? ⟨w.heap.size + 1 + 1, 2, none⟩ = false := hO2.frozen 2
  have kO_2_3 : w2.cell? ⟨w.heap.size + 1 + 1, 3, none⟩ = some (.int .i64 x.2.2.2.1) := hO2.cell 3
  have fO_2_3 : w2.frozen? ⟨w.heap.size + 1 + 1, 3, none⟩ = false := hO2.frozen 3
  have kO_2_4 : w2.cell? ⟨w.heap.size + 1 + 1, 4, none⟩ = some (.int .i64 x.2.2.2.2) := hO2.cell 4
  have fO_2_4 : w2.frozen? ⟨w.heap.size + 1 + 1, 4, none⟩ = false := hO2.frozen 4
  have zO_2 : w.heap.size + 1 + 1 < w2.heap.size := hO2.lt
  go_wp2
  refine bodyPost_ret (v := .agg #[.slice A0 (List.length x.1) c0, .slice A1 (List.length x.2.1) c1, .slice A2 (List.length x.2.2.1) c2, .int .i64 x.2.2.2.1, .int .i64 x.2.2.2.2]) (by simp [results, Try.results78, go_sem, kO_2_0, kO_2_1, kO_2_2, kO_2_3, kO_2_4, kR_2_0, kR_2_1, kR_2_2, kR_2_3, kR_2_4, fO_2_0, fO_2_1, fO_2_2, fO_2_3, fO_2_4, fR_2_0, fR_2_1, fR_2_2, fR_2_3, fR_2_4]) rfl ?_
  exact ⟨_, _, rfl, ow_Data_mk (Ty.ow_keep (by intro b hb'; have hb'' := (hfr0).2 b hb'; (try simp only [World.size_alloc, World.size_setCell, size_drewN, World.size_drew] at hb''); repeat (first | (with_reducible rfl) | (rw [Below.heap_setCell _ _ _ _ (by (try dsimp only); omega)]) | (rw [Below.heap_alloc _ _ _ (by simp only [World.size_alloc, World.size_setCell]; omega)]) | (rw [hb1.block _ (by simp only [World.size_alloc, World.size_setCell, size_drewN, World.size_drew]; omega)]) | (rw [hb2.block _ (by simp only [World.size_alloc, World.size_setCell, size_drewN, World.size_drew]; omega)]))) how0) (Ty.ow_keep (by intro b hb'; have hb'' := (hfr1).2 b hb'; (try simp only [World.size_alloc, World.size_setCell, size_drewN, World.size_drew] at hb''); repeat (first | (with_reducible rfl) | (rw [Below.heap_setCell _ _ _ _ (by (try dsimp only); omega)]) | (rw [Below.heap_alloc _ _ _ (by simp only [World.size_alloc, World.size_setCell]; omega)]) | (rw [hb2.block _ (by simp only [World.size_alloc, World.size_setCell, size_drewN, World.size_drew]; omega)]))) how1) (Ty.ow_keep (by intro b hb'; have hb'' := (hfr2).2 b hb'; (try simp only [World.size_alloc, World.size_setCell, size_drewN, World.size_drew] at hb''); repeat (first | (with_reducible rfl) | (rw [Below.heap_setCell _ _ _ _ (by (try dsimp only); omega)]) | (rw [Below.heap_alloc _ _ _ (by simp only [World.size_alloc, World.size_setCell]; omega)]))) how2) sg3 sg4, (fr3 (m1 := w0.heap.size) (m2 := w1.heap.size) (hfr0.mono (by (try simp only [World.size_alloc, World.size_setCell, size_drewN, World.size_drew]); omega) (Nat.le_refl _)) (hfr1.mono (by (try simp only [World.size_alloc, World.size_setCell]); omega) (Nat.le_refl _)) (hfr2.mono (by (try simp only [World.size_alloc, World.size_setCell]); omega) (by (try simp only [World.size_alloc, World.size_setCell, size_drewN, World.size_drew]); omega)) (by (try simp only [World.size_alloc, World.size_setCell, size_drewN, World.size_drew]); omega) (by (try simp only [World.size_alloc, World.size_setCell, size_drewN, World.size_drew]); omega) (by (try simp only [World.size_alloc, World.size_setCell, size_drewN, World.size_drew]); omega)), bel_trans (by repeat' (first | (with_reducible exact Below.refl _ _) | (with_reducible assumption) | (with_reducible refine bel_set ?_ (by (try dsimp only); omega) _) | (with_reducible refine bel_alloc ?_ _) | (with_reducible refine bel_drewN ?_ _) | (with_reducible refine bel_drew ?_))) (Below.refl _ _)⟩
end Go.Proofs.Ytemicfeiejfdkaa
