/- Interests drawn. Printed by gen51.py. -/
import Derived.Test.YtldgbnlcnlfmeaaDow
import Derived.Deep.RegionHeld3
namespace Go.Proofs.Ytldgbnlcnlfmeaa
open Go.RowKit
set_option linter.unusedVariables false
set_option linter.unusedSimpArgs false

/-- What a drawn interest is. -/
def okW (q : tInterest.D) : Prop := validName q.1 = true ∧ 0 < q.1.length ∧ (0 ≤ q.2.1 ∧ q.2.1 ≤ 8) ∧ (0 ≤ q.2.2.1 ∧ q.2.2.1 ≤ 4) ∧ (1 ≤ q.2.2.2 ∧ q.2.2.2 ≤ 6)
theorem ow_Interest_mk {w : World} {q : tInterest.D} {v0 : Value} {fp : List Nat} (h0 : (Ty.sl .str).ow w [v0] q.1 fp) (h1 : -9223372036854775808 ≤ q.2.1 ∧ q.2.1 ≤ 9223372036854775807) (h2 : -9223372036854775808 ≤ q.2.2.1 ∧ q.2.2.1 ≤ 9223372036854775807) (h3 : -9223372036854775808 ≤ q.2.2.2 ∧ q.2.2.2 ≤ 9223372036854775807) :
    tInterest.ow w [v0, .int .i64 q.2.1, .int .i64 q.2.2.1, .int .i64 q.2.2.2] q fp :=
  ⟨[v0], _, fp, [], rfl, (List.append_nil _).symm, h0, [_], _, [], [], rfl, rfl, ⟨⟨rfl, h1⟩, rfl⟩, [_], [_], [], [], rfl, rfl, ⟨⟨rfl, h2⟩, rfl⟩, ⟨⟨rfl, h3⟩, rfl⟩⟩
set_option maxRecDepth 100000 in
set_option maxHeartbeats 2000000 in
/-- The last statement: the name lies in a box. -/
theorem C_spec_l7Draw (w : World) (B : Nat) (hc : CurT w B) :
    Calls Try.prog 137 #[pB B] w (RetDT B w (DrA tInterest w okW)) := by
  have hB := hc.lt
  go_enter Try.func137, Try.ntmps137
  go_wp2_with fail
  refine (C_spec_l4Name _ B (by repeat' (first | (with_reducible assumption) | (with_reducible refine Cur.far ?_ (by (try dsimp only); omega) _) | (with_reducible refine Cur.alloc ?_ _) | (with_reducible refine Cur.drewN ?_ _) | (with_reducible refine Cur.drew ?_)))).mono ?_
  rintro e w1 ⟨hd1, hc1, v, n, rfl, hR, hV⟩
  have z1 := hd1.size
  simp only [World.size_alloc] at z1
  have hO1 : Blk w1 w.heap.size 33 #[.slice none 0 0, .int .i64 0, .int .i64 0, .int .i64 0] := Dr.blk hd1 (Blk.new w _ _) (by omega)
  have hD1 : Dr B w w1 := (by repeat' (first | (with_reducible exact Dr.refl _ _) | (with_reducible assumption) | (with_reducible refine Dr.set ?_ (by (try dsimp only); omega) _) | (with_reducible refine Dr.alloc ?_ _) | (with_reducible refine Dr.drewN ?_ _) | (with_reducible refine Dr.drew ?_) | (with_reducible refine Dr.trans ?_ (by assumption))))
  obtain ⟨A, c, rfl⟩ := hR.form
  have HR := Lib.hid hR
  rw [World.size_alloc] at HR
  clear hR
  by_cases h0 : n.length = 0
  · go_wp2_with fail
    obtain ⟨WT, hWT⟩ : ∃ WT, WT = ((w1.alloc (Obj.cells #[Value.slice (some { block := w1.heap.size + 1, off := 0 }) 1 1] 27)).alloc (Obj.cells #[Value.string { data := #[97] }] 9)) := ⟨_, rfl⟩
    obtain ⟨vn, hvn⟩ : ∃ vn, vn = Value.slice (some { block := w1.heap.size + 1, off := 0 }) 1 1 := ⟨_, rfl⟩
    have CT : CurT WT B := by rw [hWT]; exact (by repeat' (first | (with_reducible assumption) | (with_reducible refine Cur.far ?_ (by (try dsimp only); omega) _) | (with_reducible refine Cur.alloc ?_ _) | (with_reducible refine Cur.drewN ?_ _) | (with_reducible refine Cur.drew ?_)))
    have ET : Dr B w1 WT := by rw [hWT]; exact (by repeat' (first | (with_reducible exact Dr.refl _ _) | (with_reducible assumption) | (with_reducible refine Dr.set ?_ (by (try dsimp only); omega) _) | (with_reducible refine Dr.alloc ?_ _) | (with_reducible refine Dr.drewN ?_ _) | (with_reducible refine Dr.drew ?_) | (with_reducible refine Dr.trans ?_ (by assumption))))
    have DT : Dr B w WT := hD1.trans ET
    have HO := Dr.blk ET hO1 (by omega)
    have HN : Blk WT w1.heap.size 27 #[vn] := by rw [hWT, hvn]; exact (Blk.new _ _ _).alloc _
    obtain ⟨fm, how, hfr⟩ : ∃ fp, (Ty.sl .str).ow WT [vn] [[97]] fp ∧ FrI (w.heap.size + 1) WT.heap.size fp := by rw [hWT, hvn]; exact Row.ow (Row.litA (by rfl) (by decide) (by rw [World.size_alloc]) (by rfl) (by rfl) (by decide) (by (try simp only [World.size_alloc, World.size_setCell, size_drewN, World.size_drew]); omega)) (by (try simp only [World.size_alloc, World.size_setCell, size_drewN, World.size_drew]); omega)
    have hV2 : validName [[97]] = true := by decide
    obtain ⟨m, hm⟩ : ∃ m : List (List UInt8), m = [[97]] := ⟨_, rfl⟩
    have hp : 0 < m.length := by rw [hm]; decide
    rw [← hm] at how hV2
    rw [← hWT, ← hvn]
    have zT : w1.heap.size < WT.heap.size := HN.lt
    obtain ⟨An, cn, rfl, _, _, _⟩ := Ty.rd_sl (Ty.ow_rd how)
    clear hWT hvn hm HR
    clear hd1 hc1 hO1 hD1
    refine wp_region_noPanic ?_
    refine wp_region_held_drew (S := (fun W => W.cell? ⟨w1.heap.size, 0, none⟩ = some (.slice An m.length cn))) (by kernel_rfl) ?_ (fun hHeld => ?_)
    · exact HN.c1
    refine tk 0 (opN rfl) (by kernel_rfl) (by rfl) (by (intro w hSw; (try dsimp only at hSw); go_simp; first | done | with_reducible rfl)) (by assumption) ?_
    try simp only [Act.put, List.setIfInBounds_toArray, List.set_cons_zero, List.set_cons_succ]
    refine tk 1 (opN rfl) (by kernel_rfl) (by rfl) (by (intro w hSw; (try dsimp only at hSw); go_simp; first | done | with_reducible rfl)) (by assumption) ?_
    try simp only [Act.put, List.setIfInBounds_toArray, List.set_cons_zero, List.set_cons_succ]
    refine tk 3 (opN rfl) (by kernel_rfl) (by rfl) (by (intro w hSw; (try dsimp only at hSw); go_simp; first | done | with_reducible rfl)) (by assumption) ?_
    try simp only [Act.put, List.setIfInBounds_toArray, List.set_cons_zero, List.set_cons_succ]
    refine tk 5 (opN rfl) (by kernel_rfl) (by rfl) (by (intro w hSw; (try dsimp only at hSw); go_simp; first | done | with_reducible rfl)) (by assumption) ?_
    try simp only [Act.put, List.setIfInBounds_toArray, List.set_cons_zero, List.set_cons_succ]
    refine wpAnyH_ready (rs := [2]) (by kernel_rfl) (by simp) ?_
    refine (AllReadyH.cons (opN rfl) (fun K hK => ?_) AllReadyH.nil)
    go_simp
    go_at_call 69
    refine (C_spec_l1Below _ B 9 (by repeat' (first | (with_reducible assumption) | (with_reducible refine Cur.far ?_ (by (try dsimp only); omega) _) | (with_reducible refine Cur.alloc ?_ _) | (with_reducible refine Cur.drewN ?_ _) | (with_reducible refine Cur.drew ?_))) (by decide) (by decide)).mono ?_
    rintro e w4 ⟨hd4, hc4, x4, rfl, hx4, hy4⟩
    have z4 := hd4.size
    (try simp only [World.size_alloc, World.size_drew, size_drewN] at z4)
    have E4 : Dr B WT w4 := (by repeat' (first | (with_reducible exact Dr.refl _ _) | (with_reducible assumption) | (with_reducible refine Dr.set ?_ (by (try dsimp only); omega) _) | (with_reducible refine Dr.alloc ?_ _) | (with_reducible refine Dr.drewN ?_ _) | (with_reducible refine Dr.drew ?_) | (with_reducible refine Dr.trans ?_ (by assumption))))
    have hO4 : Blk w4 w.heap.size 33 #[.slice none 0 0, .int .i64 0, .int .i64 0, .int .i64 0] := Dr.blk E4 HO (by omega)
    have hN4 : Blk w4 w1.heap.size 27 #[.slice An m.length cn] := Dr.blk E4 HN (by omega)
    refine hK.out _ _ ?_ (fun hHeld => ?_)
    · (try dsimp only)
      exact hN4.c1
    clear hK K
    try simp only [Act.put, List.setIfInBounds_toArray, List.set_cons_zero, List.set_cons_succ]
    refine wpAnyH_ready (rs := [4]) (by kernel_rfl) (by simp) ?_
    refine (AllReadyH.cons (opN rfl) (fun K hK => ?_) AllReadyH.nil)
    go_simp
    go_at_call 69
    refine (C_spec_l1Below _ B 5 (by repeat' (first | (with_reducible assumption) | (with_reducible refine Cur.far ?_ (by (try dsimp only); omega) _) | (with_reducible refine Cur.alloc ?_ _) | (with_reducible refine Cur.drewN ?_ _) | (with_reducible refine Cur.drew ?_))) (by decide) (by decide)).mono ?_
    rintro e w5 ⟨hd5, hc5, x5, rfl, hx5, hy5⟩
    have z5 := hd5.size
    (try simp only [World.size_alloc, World.size_drew, size_drewN] at z5)
    have E5 : Dr B WT w5 := (by repeat' (first | (with_reducible exact Dr.refl _ _) | (with_reducible assumption) | (with_reducible refine Dr.set ?_ (by (try dsimp only); omega) _) | (with_reducible refine Dr.alloc ?_ _) | (with_reducible refine Dr.drewN ?_ _) | (with_reducible refine Dr.drew ?_) | (with_reducible refine Dr.trans ?_ (by assumption))))
    have hO5 : Blk w5 w.heap.size 33 #[.slice none 0 0, .int .i64 0, .int .i64 0, .int .i64 0] := Dr.blk E5 HO (by omega)
    have hN5 : Blk w5 w1.heap.size 27 #[.slice An m.length cn] := Dr.blk E5 HN (by omega)
    refine hK.out _ _ ?_ (fun hHeld => ?_)
    · (try dsimp only)
      exact hN5.c1
    clear hK K
    try simp only [Act.put, List.setIfInBounds_toArray, List.set_cons_zero, List.set_cons_succ]
    refine wpAnyH_ready (rs := [6]) (by kernel_rfl) (by simp) ?_
    refine (AllReadyH.cons (opN rfl) (fun K hK => ?_) AllReadyH.nil)
    go_simp
    go_at_call 69
    refine (C_spec_l1Below _ B 6 (by repeat' (first | (with_reducible assumption) | (with_reducible refine Cur.far ?_ (by (try dsimp only); omega) _) | (with_reducible refine Cur.alloc ?_ _) | (with_reducible refine Cur.drewN ?_ _) | (with_reducible refine Cur.drew ?_))) (by decide) (by decide)).mono ?_
    rintro e w6 ⟨hd6, hc6, x6, rfl, hx6, hy6⟩
    have z6 := hd6.size
    (try simp only [World.size_alloc, World.size_drew, size_drewN] at z6)
    have E6 : Dr B WT w6 := (by repeat' (first | (with_reducible exact Dr.refl _ _) | (with_reducible assumption) | (with_reducible refine Dr.set ?_ (by (try dsimp only); omega) _) | (with_reducible refine Dr.alloc ?_ _) | (with_reducible refine Dr.drewN ?_ _) | (with_reducible refine Dr.drew ?_) | (with_reducible refine Dr.trans ?_ (by assumption))))
    have hO6 : Blk w6 w.heap.size 33 #[.slice none 0 0, .int .i64 0, .int .i64 0, .int .i64 0] := Dr.blk E6 HO (by omega)
    have hN6 : Blk w6 w1.heap.size 27 #[.slice An m.length cn] := Dr.blk E6 HN (by omega)
    refine hK.out _ _ ?_ (fun hHeld => ?_)
    · (try dsimp only)
      exact hN6.c1
    clear hK K
    try simp only [Act.put, List.setIfInBounds_toArray, List.set_cons_zero, List.set_cons_succ]
    refine tk 7 (opN rfl) (by kernel_rfl) (by rfl) (by (intro w hSw; (try dsimp only at hSw); go_simp; first | done | with_reducible rfl)) (by assumption) ?_
    try simp only [Act.put, List.setIfInBounds_toArray, List.set_cons_zero, List.set_cons_succ]
    refine tk 8 (opN rfl) (by kernel_rfl) (by rfl) (by (intro w hSw; (try dsimp only at hSw); go_simp; first | done | with_reducible rfl)) (by assumption) ?_
    try simp only [Act.put, List.setIfInBounds_toArray, List.set_cons_zero, List.set_cons_succ]
    refine wpAnyH_ready (rs := [9]) (by kernel_rfl) (by simp) ?_
    refine (AllReadyH.cons (opN rfl) (fun K hK => ?_) AllReadyH.nil)
    have k0 : w6.cell? ⟨w.heap.size, 0, none⟩ = some (.slice none 0 0) := hO6.cell 0
    have k1 : w6.cell? ⟨w.heap.size, 1, none⟩ = some (.int .i64 0) := hO6.cell 1
    have k2 : w6.cell? ⟨w.heap.size, 2, none⟩ = some (.int .i64 0) := hO6.cell 2
    have k3 : w6.cell? ⟨w.heap.size, 3, none⟩ = some (.int .i64 0) := hO6.cell 3
    have f1 : w6.frozen? ⟨w.heap.size, 1, none⟩ = false := hO6.f1
    have f2 : w6.frozen? ⟨w.heap.size, 2, none⟩ = false := hO6.f1
    have f3 : w6.frozen? ⟨w.heap.size, 3, none⟩ = false := hO6.f1
    have f0 : w6.frozen? ⟨w.heap.size, 0, none⟩ = false := hO6.f1
    go_simp
    have hq6 : IntKind.i64.wrap (1 + x6) = 1 + x6 := IntWalk.i64_in _ (by omega)
    rw [hq6]
    have hO7 := (((hO6.set_ 0 (.slice An m.length cn)).set_ 1 (.int .i64 x4)).set_ 2 (.int .i64 x5)).set_ 3 (.int .i64 (1 + x6))
    have D6 : Dr B w w6 := DT.trans E6
    have D7 := (((D6.set (p := ⟨w.heap.size, 0, none⟩) (.inr (Nat.le_refl _)) (.slice An m.length cn)).set (p := ⟨w.heap.size, 1, none⟩) (.inr (Nat.le_refl _)) (.int .i64 x4)).set (p := ⟨w.heap.size, 2, none⟩) (.inr (Nat.le_refl _)) (.int .i64 x5)).set (p := ⟨w.heap.size, 3, none⟩) (.inr (Nat.le_refl _)) (.int .i64 (1 + x6))
    have C7 := (((hc6.far (p := ⟨w.heap.size, 0, none⟩) hB (.slice An m.length cn)).far (p := ⟨w.heap.size, 1, none⟩) hB (.int .i64 x4)).far (p := ⟨w.heap.size, 2, none⟩) hB (.int .i64 x5)).far (p := ⟨w.heap.size, 3, none⟩) hB (.int .i64 (1 + x6))
    have how6 := owDr how hfr (by omega) E6
    have how7 := owSet (owSet (owSet (owSet how6 hfr (p := ⟨w.heap.size, 0, none⟩) (by dsimp only; omega) (.slice An m.length cn)) hfr (p := ⟨w.heap.size, 1, none⟩) (by dsimp only; omega) (.int .i64 x4)) hfr (p := ⟨w.heap.size, 2, none⟩) (by dsimp only; omega) (.int .i64 x5)) hfr (p := ⟨w.heap.size, 3, none⟩) (by dsimp only; omega) (.int .i64 (1 + x6))
    have hNq := (((hN6.far (p := ⟨w.heap.size, 0, none⟩) (by dsimp only; omega) (.slice An m.length cn)).far (p := ⟨w.heap.size, 1, none⟩) (by dsimp only; omega) (.int .i64 x4)).far (p := ⟨w.heap.size, 2, none⟩) (by dsimp only; omega) (.int .i64 x5)).far (p := ⟨w.heap.size, 3, none⟩) (by dsimp only; omega) (.int .i64 (1 + x6))
    have z7 : WT.heap.size ≤ ((((w6.setCell ⟨w.heap.size, 0, none⟩ (.slice An m.length cn)).setCell ⟨w.heap.size, 1, none⟩ (.int .i64 x4)).setCell ⟨w.heap.size, 2, none⟩ (.int .i64 x5)).setCell ⟨w.heap.size, 3, none⟩ (.int .i64 (1 + x6))).heap.size := by simp only [World.size_setCell]; exact E6.size
    generalize ((((w6.setCell ⟨w.heap.size, 0, none⟩ (.slice An m.length cn)).setCell ⟨w.heap.size, 1, none⟩ (.int .i64 x4)).setCell ⟨w.heap.size, 2, none⟩ (.int .i64 x5)).setCell ⟨w.heap.size, 3, none⟩ (.int .i64 (1 + x6))) = w7 at hNq hO7 D7 C7 how7 z7 ⊢
    have hN7 : Blk w7 w1.heap.size 27 #[.slice An m.length cn] := hNq
    have j0 : w7.cell? ⟨w.heap.size, 0, none⟩ = some (.slice An m.length cn) := hO7.cell 0
    have j1 : w7.cell? ⟨w.heap.size, 1, none⟩ = some (.int .i64 x4) := hO7.cell 1
    have j2 : w7.cell? ⟨w.heap.size, 2, none⟩ = some (.int .i64 x5) := hO7.cell 2
    have j3 : w7.cell? ⟨w.heap.size, 3, none⟩ = some (.int .i64 (1 + x6)) := hO7.cell 3
    refine hK.out _ _ ?_ (fun hHeld => ?_)
    · (try dsimp only)
      exact hN7.c1
    clear hK K
    try simp only [Act.put, List.setIfInBounds_toArray, List.set_cons_zero, List.set_cons_succ]
    refine wpAnyH_done (by kernel_rfl) ?_ _
    refine NoPanic.normal ?_
    go_wp2
    refine bodyPost_ret (v := .agg #[.slice An m.length cn, .int .i64 x4, .int .i64 x5, .int .i64 (1 + x6)]) (by simp [results, Try.results137, go_sem, j0, j1, j2, j3]) rfl ?_
    have b1 : -9223372036854775808 ≤ x4 ∧ x4 ≤ 9223372036854775807 := by omega
    have b2 : -9223372036854775808 ≤ x5 ∧ x5 ≤ 9223372036854775807 := by omega
    have b3 : -9223372036854775808 ≤ 1 + x6 ∧ 1 + x6 ≤ 9223372036854775807 := by omega
    have o1 : 0 ≤ x4 ∧ x4 ≤ 8 := by omega
    have o2 : 0 ≤ x5 ∧ x5 ≤ 4 := by omega
    have o3 : 1 ≤ 1 + x6 ∧ 1 + x6 ≤ 6 := by omega
    exact ⟨D7, C7, _, (m, x4, x5, 1 + x6), fm, rfl, ow_Interest_mk (q := (m, x4, x5, 1 + x6)) how7 b1 b2 b3, hfr.mono (by omega) z7, hV2, hp, o1, o2, o3⟩
  · go_wp2_with fail
    obtain ⟨WT, hWT⟩ : ∃ WT, WT = (w1.alloc (Obj.cells #[Value.slice A n.length c] 27)) := ⟨_, rfl⟩
    obtain ⟨vn, hvn⟩ : ∃ vn, vn = Value.slice A n.length c := ⟨_, rfl⟩
    have CT : CurT WT B := by rw [hWT]; exact (by repeat' (first | (with_reducible assumption) | (with_reducible refine Cur.far ?_ (by (try dsimp only); omega) _) | (with_reducible refine Cur.alloc ?_ _) | (with_reducible refine Cur.drewN ?_ _) | (with_reducible refine Cur.drew ?_)))
    have ET : Dr B w1 WT := by rw [hWT]; exact (by repeat' (first | (with_reducible exact Dr.refl _ _) | (with_reducible assumption) | (with_reducible refine Dr.set ?_ (by (try dsimp only); omega) _) | (with_reducible refine Dr.alloc ?_ _) | (with_reducible refine Dr.drewN ?_ _) | (with_reducible refine Dr.drew ?_) | (with_reducible refine Dr.trans ?_ (by assumption))))
    have DT : Dr B w WT := hD1.trans ET
    have HO := Dr.blk ET hO1 (by omega)
    have HN : Blk WT w1.heap.size 27 #[vn] := by rw [hWT, hvn]; exact (Blk.new _ _ _)
    obtain ⟨fm, how, hfr⟩ : ∃ fp, (Ty.sl .str).ow WT [vn] n fp ∧ FrI (w.heap.size + 1) WT.heap.size fp := by rw [hWT, hvn]; exact Row.ow (HR.out.below (by repeat' (first | (with_reducible exact Below.refl _ _) | (with_reducible assumption) | (with_reducible refine bel_set ?_ (by (try dsimp only); omega) _) | (with_reducible refine bel_alloc ?_ _) | (with_reducible refine bel_drewN ?_ _) | (with_reducible refine bel_drew ?_)))) (by (try simp only [World.size_alloc, World.size_setCell, size_drewN, World.size_drew]); omega)
    have hV2 := hV
    obtain ⟨m, hm⟩ : ∃ m : List (List UInt8), m = n := ⟨_, rfl⟩
    have hp : 0 < m.length := by rw [hm]; omega
    rw [← hm] at how hV2
    rw [← hWT, ← hvn]
    have zT : w1.heap.size < WT.heap.size := HN.lt
    obtain ⟨An, cn, rfl, _, _, _⟩ := Ty.rd_sl (Ty.ow_rd how)
    clear hWT hvn hm HR
    clear hd1 hc1 hO1 hD1
    refine wp_region_noPanic ?_
    refine wp_region_held_drew (S := (fun W => W.cell? ⟨w1.heap.size, 0, none⟩ = some (.slice An m.length cn))) (by kernel_rfl) ?_ (fun hHeld => ?_)
    · exact HN.c1
    refine tk 0 (opN rfl) (by kernel_rfl) (by rfl) (by (intro w hSw; (try dsimp only at hSw); go_simp; first | done | with_reducible rfl)) (by assumption) ?_
    try simp only [Act.put, List.setIfInBounds_toArray, List.set_cons_zero, List.set_cons_succ]
    refine tk 1 (opN rfl) (by kernel_rfl) (by rfl) (by (intro w hSw; (try dsimp only at hSw); go_simp; first | done | with_reducible rfl)) (by assumption) ?_
    try simp only [Act.put, List.setIfInBounds_toArray, List.set_cons_zero, List.set_cons_succ]
    refine tk 3 (opN rfl) (by kernel_rfl) (by rfl) (by (intro w hSw; (try dsimp only at hSw); go_simp; first | done | with_reducible rfl)) (by assumption) ?_
    try simp only [Act.put, List.setIfInBounds_toArray, List.set_cons_zero, List.set_cons_succ]
    refine tk 5 (opN rfl) (by kernel_rfl) (by rfl) (by (intro w hSw; (try dsimp only at hSw); go_simp; first | done | with_reducible rfl)) (by assumption) ?_
    try simp only [Act.put, List.setIfInBounds_toArray, List.set_cons_zero, List.set_cons_succ]
    refine wpAnyH_ready (rs := [2]) (by kernel_rfl) (by simp) ?_
    refine (AllReadyH.cons (opN rfl) (fun K hK => ?_) AllReadyH.nil)
    go_simp
    go_at_call 69
    refine (C_spec_l1Below _ B 9 (by repeat' (first | (with_reducible assumption) | (with_reducible refine Cur.far ?_ (by (try dsimp only); omega) _) | (with_reducible refine Cur.alloc ?_ _) | (with_reducible refine Cur.drewN ?_ _) | (with_reducible refine Cur.drew ?_))) (by decide) (by decide)).mono ?_
    rintro e w4 ⟨hd4, hc4, x4, rfl, hx4, hy4⟩
    have z4 := hd4.size
    (try simp only [World.size_alloc, World.size_drew, size_drewN] at z4)
    have E4 : Dr B WT w4 := (by repeat' (first | (with_reducible exact Dr.refl _ _) | (with_reducible assumption) | (with_reducible refine Dr.set ?_ (by (try dsimp only); omega) _) | (with_reducible refine Dr.alloc ?_ _) | (with_reducible refine Dr.drewN ?_ _) | (with_reducible refine Dr.drew ?_) | (with_reducible refine Dr.trans ?_ (by assumption))))
    have hO4 : Blk w4 w.heap.size 33 #[.slice none 0 0, .int .i64 0, .int .i64 0, .int .i64 0] := Dr.blk E4 HO (by omega)
    have hN4 : Blk w4 w1.heap.size 27 #[.slice An m.length cn] := Dr.blk E4 HN (by omega)
    refine hK.out _ _ ?_ (fun hHeld => ?_)
    · (try dsimp only)
      exact hN4.c1
    clear hK K
    try simp only [Act.put, List.setIfInBounds_toArray, List.set_cons_zero, List.set_cons_succ]
    refine wpAnyH_ready (rs := [4]) (by kernel_rfl) (by simp) ?_
    refine (AllReadyH.cons (opN rfl) (fun K hK => ?_) AllReadyH.nil)
    go_simp
    go_at_call 69
    refine (C_spec_l1Below _ B 5 (by repeat' (first | (with_reducible assumption) | (with_reducible refine Cur.far ?_ (by (try dsimp only); omega) _) | (with_reducible refine Cur.alloc ?_ _) | (with_reducible refine Cur.drewN ?_ _) | (with_reducible refine Cur.drew ?_))) (by decide) (by decide)).mono ?_
    rintro e w5 ⟨hd5, hc5, x5, rfl, hx5, hy5⟩
    have z5 := hd5.size
    (try simp only [World.size_alloc, World.size_drew, size_drewN] at z5)
    have E5 : Dr B WT w5 := (by repeat' (first | (with_reducible exact Dr.refl _ _) | (with_reducible assumption) | (with_reducible refine Dr.set ?_ (by (try dsimp only); omega) _) | (with_reducible refine Dr.alloc ?_ _) | (with_reducible refine Dr.drewN ?_ _) | (with_reducible refine Dr.drew ?_) | (with_reducible refine Dr.trans ?_ (by assumption))))
    have hO5 : Blk w5 w.heap.size 33 #[.slice none 0 0, .int .i64 0, .int .i64 0, .int .i64 0] := Dr.blk E5 HO (by omega)
    have hN5 : Blk w5 w1.heap.size 27 #[.slice An m.length cn] := Dr.blk E5 HN (by omega)
    refine hK.out _ _ ?_ (fun hHeld => ?_)
    · (try dsimp only)
      exact hN5.c1
    clear hK K
    try simp only [Act.put, List.setIfInBounds_toArray, List.set_cons_zero, List.set_cons_succ]
    refine wpAnyH_ready (rs := [6]) (by kernel_rfl) (by simp) ?_
    refine (AllReadyH.cons (opN rfl) (fun K hK => ?_) AllReadyH.nil)
    go_simp
    go_at_call 69
    refine (C_spec_l1Below _ B 6 (by repeat' (first | (with_reducible assumption) | (with_reducible refine Cur.far ?_ (by (try dsimp only); omega) _) | (with_reducible refine Cur.alloc ?_ _) | (with_reducible refine Cur.drewN ?_ _) | (with_reducible refine Cur.drew ?_))) (by decide) (by decide)).mono ?_
    rintro e w6 ⟨hd6, hc6, x6, rfl, hx6, hy6⟩
    have z6 := hd6.size
    (try simp only [World.size_alloc, World.size_drew, size_drewN] at z6)
    have E6 : Dr B WT w6 := (by repeat' (first | (with_reducible exact Dr.refl _ _) | (with_reducible assumption) | (with_reducible refine Dr.set ?_ (by (try dsimp only); omega) _) | (with_reducible refine Dr.alloc ?_ _) | (with_reducible refine Dr.drewN ?_ _) | (with_reducible refine Dr.drew ?_) | (with_reducible refine Dr.trans ?_ (by assumption))))
    have hO6 : Blk w6 w.heap.size 33 #[.slice none 0 0, .int .i64 0, .int .i64 0, .int .i64 0] := Dr.blk E6 HO (by omega)
    have hN6 : Blk w6 w1.heap.size 27 #[.slice An m.length cn] := Dr.blk E6 HN (by omega)
    refine hK.out _ _ ?_ (fun hHeld => ?_)
    · (try dsimp only)
      exact hN6.c1
    clear hK K
    try simp only [Act.put, List.setIfInBounds_toArray, List.set_cons_zero, List.set_cons_succ]
    refine tk 7 (opN rfl) (by kernel_rfl) (by rfl) (by (intro w hSw; (try dsimp only at hSw); go_simp; first | done | with_reducible rfl)) (by assumption) ?_
    try simp only [Act.put, List.setIfInBounds_toArray, List.set_cons_zero, List.set_cons_succ]
    refine tk 8 (opN rfl) (by kernel_rfl) (by rfl) (by (intro w hSw; (try dsimp only at hSw); go_simp; first | done | with_reducible rfl)) (by assumption) ?_
    try simp only [Act.put, List.setIfInBounds_toArray, List.set_cons_zero, List.set_cons_succ]
    refine wpAnyH_ready (rs := [9]) (by kernel_rfl) (by simp) ?_
    refine (AllReadyH.cons (opN rfl) (fun K hK => ?_) AllReadyH.nil)
    have k0 : w6.cell? ⟨w.heap.size, 0, none⟩ = some (.slice none 0 0) := hO6.cell 0
    have k1 : w6.cell? ⟨w.heap.size, 1, none⟩ = some (.int .i64 0) := hO6.cell 1
    have k2 : w6.cell? ⟨w.heap.size, 2, none⟩ = some (.int .i64 0) := hO6.cell 2
    have k3 : w6.cell? ⟨w.heap.size, 3, none⟩ = some (.int .i64 0) := hO6.cell 3
    have f1 : w6.frozen? ⟨w.heap.size, 1, none⟩ = false := hO6.f1
    have f2 : w6.frozen? ⟨w.heap.size, 2, none⟩ = false := hO6.f1
    have f3 : w6.frozen? ⟨w.heap.size, 3, none⟩ = false := hO6.f1
    have f0 : w6.frozen? ⟨w.heap.size, 0, none⟩ = false := hO6.f1
    go_simp
    have hq6 : IntKind.i64.wrap (1 + x6) = 1 + x6 := IntWalk.i64_in _ (by omega)
    rw [hq6]
    have hO7 := (((hO6.set_ 0 (.slice An m.length cn)).set_ 1 (.int .i64 x4)).set_ 2 (.int .i64 x5)).set_ 3 (.int .i64 (1 + x6))
    have D6 : Dr B w w6 := DT.trans E6
    have D7 := (((D6.set (p := ⟨w.heap.size, 0, none⟩) (.inr (Nat.le_refl _)) (.slice An m.length cn)).set (p := ⟨w.heap.size, 1, none⟩) (.inr (Nat.le_refl _)) (.int .i64 x4)).set (p := ⟨w.heap.size, 2, none⟩) (.inr (Nat.le_refl _)) (.int .i64 x5)).set (p := ⟨w.heap.size, 3, none⟩) (.inr (Nat.le_refl _)) (.int .i64 (1 + x6))
    have C7 := (((hc6.far (p := ⟨w.heap.size, 0, none⟩) hB (.slice An m.length cn)).far (p := ⟨w.heap.size, 1, none⟩) hB (.int .i64 x4)).far (p := ⟨w.heap.size, 2, none⟩) hB (.int .i64 x5)).far (p := ⟨w.heap.size, 3, none⟩) hB (.int .i64 (1 + x6))
    have how6 := owDr how hfr (by omega) E6
    have how7 := owSet (owSet (owSet (owSet how6 hfr (p := ⟨w.heap.size, 0, none⟩) (by dsimp only; omega) (.slice An m.length cn)) hfr (p := ⟨w.heap.size, 1, none⟩) (by dsimp only; omega) (.int .i64 x4)) hfr (p := ⟨w.heap.size, 2, none⟩) (by dsimp only; omega) (.int .i64 x5)) hfr (p := ⟨w.heap.size, 3, none⟩) (by dsimp only; omega) (.int .i64 (1 + x6))
    have hNq := (((hN6.far (p := ⟨w.heap.size, 0, none⟩) (by dsimp only; omega) (.slice An m.length cn)).far (p := ⟨w.heap.size, 1, none⟩) (by dsimp only; omega) (.int .i64 x4)).far (p := ⟨w.heap.size, 2, none⟩) (by dsimp only; omega) (.int .i64 x5)).far (p := ⟨w.heap.size, 3, none⟩) (by dsimp only; omega) (.int .i64 (1 + x6))
    have z7 : WT.heap.size ≤ ((((w6.setCell ⟨w.heap.size, 0, none⟩ (.slice An m.length cn)).setCell ⟨w.heap.size, 1, none⟩ (.int .i64 x4)).setCell ⟨w.heap.size, 2, none⟩ (.int .i64 x5)).setCell ⟨w.heap.size, 3, none⟩ (.int .i64 (1 + x6))).heap.size := by simp only [World.size_setCell]; exact E6.size
    generalize ((((w6.setCell ⟨w.heap.size, 0, none⟩ (.slice An m.length cn)).setCell ⟨w.heap.size, 1, none⟩ (.int .i64 x4)).setCell ⟨w.heap.size, 2, none⟩ (.int .i64 x5)).setCell ⟨w.heap.size, 3, none⟩ (.int .i64 (1 + x6))) = w7 at hNq hO7 D7 C7 how7 z7 ⊢
    have hN7 : Blk w7 w1.heap.size 27 #[.slice An m.length cn] := hNq
    have j0 : w7.cell? ⟨w.heap.size, 0, none⟩ = some (.slice An m.length cn) := hO7.cell 0
    have j1 : w7.cell? ⟨w.heap.size, 1, none⟩ = some (.int .i64 x4) := hO7.cell 1
    have j2 : w7.cell? ⟨w.heap.size, 2, none⟩ = some (.int .i64 x5) := hO7.cell 2
    have j3 : w7.cell? ⟨w.heap.size, 3, none⟩ = some (.int .i64 (1 + x6)) := hO7.cell 3
    refine hK.out _ _ ?_ (fun hHeld => ?_)
    · (try dsimp only)
      exact hN7.c1
    clear hK K
    try simp only [Act.put, List.setIfInBounds_toArray, List.set_cons_zero, List.set_cons_succ]
    refine wpAnyH_done (by kernel_rfl) ?_ _
    refine NoPanic.normal ?_
    go_wp2
    refine bodyPost_ret (v := .agg #[.slice An m.length cn, .int .i64 x4, .int .i64 x5, .int .i64 (1 + x6)]) (by simp [results, Try.results137, go_sem, j0, j1, j2, j3]) rfl ?_
    have b1 : -9223372036854775808 ≤ x4 ∧ x4 ≤ 9223372036854775807 := by omega
    have b2 : -9223372036854775808 ≤ x5 ∧ x5 ≤ 9223372036854775807 := by omega
    have b3 : -9223372036854775808 ≤ 1 + x6 ∧ 1 + x6 ≤ 9223372036854775807 := by omega
    have o1 : 0 ≤ x4 ∧ x4 ≤ 8 := by omega
    have o2 : 0 ≤ x5 ∧ x5 ≤ 4 := by omega
    have o3 : 1 ≤ 1 + x6 ∧ 1 + x6 ≤ 6 := by omega
    exact ⟨D7, C7, _, (m, x4, x5, 1 + x6), fm, rfl, ow_Interest_mk (q := (m, x4, x5, 1 + x6)) how7 b1 b2 b3, hfr.mono (by omega) z7, hV2, hp, o1, o2, o3⟩
end Go.Proofs.Ytldgbnlcnlfmeaa
