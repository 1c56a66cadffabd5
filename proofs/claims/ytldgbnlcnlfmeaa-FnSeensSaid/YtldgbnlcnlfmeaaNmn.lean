/- Names drawn. Printed by gen50.py. -/
import Derived.Test.YtldgbnlcnlfmeaaNmd
import Derived.Deep.RegionHeld3
namespace Go.Proofs.Ytldgbnlcnlfmeaa
open Go.RowKit
set_option linter.unusedVariables false
set_option linter.unusedSimpArgs false

theorem Blk.c1 {w : World} {g : Nat} {t : TypeId} {v : Value} (h : Blk w g t #[v]) : w.cell? ⟨g, 0, none⟩ = some v := h.cell 0
theorem Blk.f1 {w : World} {g i : Nat} {t : TypeId} {cs : Array Value} (h : Blk w g t cs) : w.frozen? ⟨g, i, none⟩ = false := h.frozen i
theorem rd_litsA {B : Nat} {w : World} {te : TypeId} {l : List (List UInt8)} {arr : Array Value} {g n c : Nat} (ha : arr = (l.map flatS.enc).toArray) (hl : (l.all fun s => decide (s.length ≤ 256)) = true) (hg : g = w.heap.size) (hn : n = l.length) (hc : c = n) (h256 : l.length ≤ 256) (hB : B < w.heap.size) :
    (Ty.sl .str).rd (hide B (w.alloc (.cells arr te))) [.slice (some ⟨g, 0, none⟩) n c] l := by
  subst ha hg hn hc
  exact rd_lits B w te l (fun s hs => by have := List.all_eq_true.1 hl s hs; simp only [decide_eq_true_eq] at this; omega) h256 hB
theorem rd_litiA {B : Nat} {w : World} {te : TypeId} {l : List Int} {arr : Array Value} {g n c : Nat} (ha : arr = (l.map flatI.enc).toArray) (hl : (l.all fun s => decide (-9223372036854775808 ≤ s ∧ s ≤ 9223372036854775807)) = true) (hg : g = w.heap.size) (hn : n = l.length) (hc : c = n) (h256 : l.length ≤ 256) (hB : B < w.heap.size) :
    (Ty.sl .int).rd (hide B (w.alloc (.cells arr te))) [.slice (some ⟨g, 0, none⟩) n c] l := by
  subst ha hg hn hc
  exact rd_liti B w te l (fun s hs => by have := List.all_eq_true.1 hl s hs; simpa only [decide_eq_true_eq] using this) h256 hB
theorem apS_ok {n : List (List UInt8)} {s : List UInt8} (h : validName n = true) : validName (apS n s).1 = true := by
  unfold apS; split
  · assumption
  · exact h
theorem validName_len {n : List (List UInt8)} (h : validName n = true) : n.length ≤ 6 := by
  unfold validName at h
  simp only [Bool.and_eq_true, decide_eq_true_eq] at h
  exact h.2
theorem l6_len {s : List UInt8} (h : s ∈ [[97], [98], [110, 101, 119, 115], [120, 45, 49], [49], [107, 101, 121]]) : s.length ≤ 1000000 := by
  simp at h
  rcases h with rfl | rfl | rfl | rfl | rfl | rfl <;> simp
set_option maxRecDepth 100000 in
set_option maxHeartbeats 2000000 in
theorem C_spec_l4Name (w : World) (B : Nat) (hc : CurT w B) :
    Calls Try.prog 68 #[pB B] w (RetDT B w (fun e w' => ∃ v n, e = .returned (.agg #[v]) ∧ Row flatS w' w.heap.size 9 v n ∧ validName n = true)) := by
  have hB := hc.lt
  go_enter Try.func68, Try.ntmps68
  go_wp2_with fail
  refine (C_spec_l1Below _ B 4 (by repeat' (first | (with_reducible assumption) | (with_reducible refine Cur.far ?_ (by (try dsimp only); omega) _) | (with_reducible refine Cur.alloc ?_ _) | (with_reducible refine Cur.drewN ?_ _) | (with_reducible refine Cur.drew ?_))) (by decide) (by decide)).mono ?_
  rintro e w1 ⟨hd1, hc1, x, rfl, hx0, hx1⟩
  have hO1 : Blk w1 w.heap.size 27 #[.slice none 0 0] := Dr.blk hd1 ((Blk.new w _ _).alloc _) (by omega)
  have hN1 : Blk w1 (w.heap.size + 1) 27 #[.slice none 0 0] := Dr.blk hd1 (by have := Blk.new (w.alloc (.cells #[.slice none 0 0] 27)) 27 #[.slice none 0 0]; rwa [World.size_alloc] at this) (by omega)
  have hD1 : Dr B w w1 := (by repeat' (first | (with_reducible exact Dr.refl _ _) | (with_reducible assumption) | (with_reducible refine Dr.set ?_ (by (try dsimp only); omega) _) | (with_reducible refine Dr.alloc ?_ _) | (with_reducible refine Dr.drewN ?_ _) | (with_reducible refine Dr.drew ?_) | (with_reducible refine Dr.trans ?_ (by assumption))))
  have z1 := hd1.size
  simp only [World.size_alloc] at z1
  go_wp2
  go_loopw [4] (fun i wr => ∃ (k : Int) (v : Value) (n : List (List UInt8)), i = .int .i64 k ∧ k ≤ 3 ∧ 0 ≤ k ∧ CurT wr B ∧ Dr B w wr ∧ Blk wr w.heap.size 27 #[.slice none 0 0] ∧ Blk wr (w.heap.size + 1) 27 #[v] ∧ Row flatS wr (w.heap.size + 1 + 1) 9 v n ∧ validName n = true) (fun i _ => (intOf i).toNat)
  case atStart => exact ⟨x, _, [], rfl, by omega, by omega, hc1, hD1, hO1, hN1, Row.nil _ _ _ _, rfl⟩
  case round =>
    obtain ⟨k, v, n, rfl, hk3, hk0, hcr, hdr, hO, hN, hR, hV⟩ := hrel
    have zr : w.heap.size + 1 < wr.heap.size := hN.lt
    have kO := hO.c1
    have kN : wr.cell? ⟨w.heap.size + 1, 0, none⟩ = some v := hN.cell 0
    have fN : wr.frozen? ⟨w.heap.size + 1, 0, none⟩ = false := hN.frozen 0
    obtain ⟨A, c, rfl⟩ := hR.form
    have HR := Lib.hid hR
    have hnl := validName_len hV
    clear hR hO1 hN1 hD1 hd1
    by_cases hlt : 0 < k
    · go_wp2_with fail
      refine wp_region_noPanic ?_
      refine wp_region_held_drew (S := (fun _ => True)) (by kernel_rfl) ?_ (fun hHeld => ?_)
      · trivial
      refine tk 1 (opN rfl) (by kernel_rfl) (by rfl) (by (intro w hSw; (try dsimp only at hSw); go_simp; first | done | with_reducible rfl)) (by assumption) ?_
      try simp only [Act.put, List.setIfInBounds_toArray, List.set_cons_zero, List.set_cons_succ]
      refine wpAnyH_ready (rs := [0, 2]) (by kernel_rfl) (by simp) ?_
      refine (AllReadyH.cons (opN rfl) (fun K hK => ?_) (AllReadyH.cons (opN rfl) (fun K hK => ?_) AllReadyH.nil))
      · go_simp
        refine hK.out _ _ ?_ (fun hHeld => ?_)
        · (try dsimp only)
          try trivial
        clear hK K
        try simp only [Act.put, List.setIfInBounds_toArray, List.set_cons_zero, List.set_cons_succ]
        refine wpAnyH_ready (rs := [2]) (by kernel_rfl) (by simp) ?_
        refine (AllReadyH.cons (opN rfl) (fun K hK => ?_) AllReadyH.nil)
        go_simp
        refine hK.out _ _ ?_ (fun hHeld => ?_)
        · (try dsimp only)
          try trivial
        clear hK K
        try simp only [Act.put, List.setIfInBounds_toArray, List.set_cons_zero, List.set_cons_succ]
        refine wpAnyH_ready (rs := [3]) (by kernel_rfl) (by simp) ?_
        refine (AllReadyH.cons (opN rfl) (fun K hK => ?_) AllReadyH.nil)
        go_simp
        go_at_call 140
        refine (C_spec_l1Str _ B _ [[97], [98], [110, 101, 119, 115], [120, 45, 49], [49], [107, 101, 121]] (by repeat' (first | (with_reducible assumption) | (with_reducible refine Cur.far ?_ (by (try dsimp only); omega) _) | (with_reducible refine Cur.alloc ?_ _) | (with_reducible refine Cur.drewN ?_ _) | (with_reducible refine Cur.drew ?_))) (by repeat (with_reducible refine rd_drewH ?_); exact rd_litsA (by rfl) (by decide) (by first | rfl | simp only [World.size_drew]) (by rfl) (by rfl) (by decide) (by (try simp only [World.size_alloc, World.size_setCell, size_drewN, World.size_drew]); omega)) (by decide) (by decide)).mono ?_
        rintro e w3 ⟨hd3, hc3, s, hs, rfl⟩
        have z3 := hd3.size
        simp only [World.size_alloc, World.size_drew, size_drewN] at z3
        have E3 : Dr B wr w3 := (by repeat' (first | (with_reducible exact Dr.refl _ _) | (with_reducible assumption) | (with_reducible refine Dr.set ?_ (by (try dsimp only); omega) _) | (with_reducible refine Dr.alloc ?_ _) | (with_reducible refine Dr.drewN ?_ _) | (with_reducible refine Dr.drew ?_) | (with_reducible refine Dr.trans ?_ (by assumption))))
        have D3 : Dr B w w3 := hdr.trans E3
        have R3 := Row.dr HR.out E3 (by omega)
        have hO3 : Blk w3 w.heap.size 27 #[.slice none 0 0] := Dr.blk hd3 (by repeat' (first | (with_reducible assumption) | (with_reducible refine Blk.alloc ?_ _) | (with_reducible refine Blk.drewN ?_ _) | (with_reducible refine Blk.drew ?_))) (by omega)
        have hN3 : Blk w3 (w.heap.size + 1) 27 #[.slice A n.length c] := Dr.blk hd3 (by repeat' (first | (with_reducible assumption) | (with_reducible refine Blk.alloc ?_ _) | (with_reducible refine Blk.drewN ?_ _) | (with_reducible refine Blk.drew ?_))) (by omega)
        have kN := hN3.c1
        refine hK.out _ _ ?_ (fun hHeld => ?_)
        · (try dsimp only)
          try trivial
        clear hK K
        try simp only [Act.put, List.setIfInBounds_toArray, List.set_cons_zero, List.set_cons_succ]
        refine wpAnyH_ready (rs := [4]) (by kernel_rfl) (by simp) ?_
        refine (AllReadyH.cons (opN rfl) (fun K hK => ?_) AllReadyH.nil)
        go_simp
        go_at_call 139
        refine (C_spec_AppendPart _ _ n s (Ty.rd_below (by repeat' (first | (with_reducible exact Below.refl _ _) | (with_reducible assumption) | (with_reducible refine bel_set ?_ (by (try dsimp only); omega) _) | (with_reducible refine bel_alloc ?_ _) | (with_reducible refine bel_drewN ?_ _) | (with_reducible refine bel_drew ?_))) (R3.rd (by omega))) (by omega) (l6_len hs)).mono ?_
        rintro e w4 ⟨v4, rfl, hr4, hb4⟩
        have z4 := hb4.size
        (try simp only [World.size_alloc, World.size_drew, size_drewN] at z4)
        have D4 : Dr B w w4 := Dr.then_ (by repeat' (first | (with_reducible exact Dr.refl _ _) | (with_reducible assumption) | (with_reducible refine Dr.set ?_ (by (try dsimp only); omega) _) | (with_reducible refine Dr.alloc ?_ _) | (with_reducible refine Dr.drewN ?_ _) | (with_reducible refine Dr.drew ?_) | (with_reducible refine Dr.trans ?_ (by assumption)))) hb4
        have C4 : CurT w4 B := Cur.below (by repeat' (first | (with_reducible assumption) | (with_reducible refine Cur.far ?_ (by (try dsimp only); omega) _) | (with_reducible refine Cur.alloc ?_ _) | (with_reducible refine Cur.drewN ?_ _) | (with_reducible refine Cur.drew ?_))) hb4
        have hO4 : Blk w4 w.heap.size 27 #[.slice none 0 0] := Blk.below (by repeat' (first | (with_reducible assumption) | (with_reducible refine Blk.alloc ?_ _) | (with_reducible refine Blk.drewN ?_ _) | (with_reducible refine Blk.drew ?_))) hb4 (by omega)
        have hN4 : Blk w4 (w.heap.size + 1) 27 #[.slice A n.length c] := Blk.below (by repeat' (first | (with_reducible assumption) | (with_reducible refine Blk.alloc ?_ _) | (with_reducible refine Blk.drewN ?_ _) | (with_reducible refine Blk.drew ?_))) hb4 (by omega)
        have k4 : w4.cell? ⟨w.heap.size + 1, 0, none⟩ = some (.slice A n.length c) := hN4.cell 0
        have f4 : w4.frozen? ⟨w.heap.size + 1, 0, none⟩ = false := hN4.frozen 0
        have HR4 := Lib.hid hr4
        obtain ⟨A4, c4, rfl⟩ := hr4.form
        clear hr4
        refine hK.out _ _ ?_ (fun hHeld => ?_)
        · (try dsimp only)
          try trivial
        clear hK K
        try simp only [Act.put, List.setIfInBounds_toArray, List.set_cons_zero, List.set_cons_succ]
        refine tk 5 (opN rfl) (by kernel_rfl) (by rfl) (by (intro w hSw; (try dsimp only at hSw); go_simp; first | done | with_reducible rfl)) (by assumption) ?_
        try simp only [Act.put, List.setIfInBounds_toArray, List.set_cons_zero, List.set_cons_succ]
        refine tk 6 (opN rfl) (by kernel_rfl) (by rfl) (by (intro w hSw; (try dsimp only at hSw); go_simp; first | done | with_reducible rfl)) (by assumption) ?_
        try simp only [Act.put, List.setIfInBounds_toArray, List.set_cons_zero, List.set_cons_succ]
        refine tk 7 (opN rfl) (by kernel_rfl) (by rfl) (by (intro w hSw; (try dsimp only at hSw); go_simp; first | done | with_reducible rfl)) (by assumption) ?_
        try simp only [Act.put, List.setIfInBounds_toArray, List.set_cons_zero, List.set_cons_succ]
        refine wpAnyH_ready (rs := [8]) (by kernel_rfl) (by simp) ?_
        refine (AllReadyH.cons (opN rfl) (fun K hK => ?_) AllReadyH.nil)
        go_simp
        have C5 : CurT (w4.setCell ⟨w.heap.size + 1, 0, none⟩ (.slice A4 (apS n s).fst.length c4)) B := (by repeat' (first | (with_reducible assumption) | (with_reducible refine Cur.far ?_ (by (try dsimp only); omega) _) | (with_reducible refine Cur.alloc ?_ _) | (with_reducible refine Cur.drewN ?_ _) | (with_reducible refine Cur.drew ?_)))
        have D5 : Dr B w (w4.setCell ⟨w.heap.size + 1, 0, none⟩ (.slice A4 (apS n s).fst.length c4)) := (by repeat' (first | (with_reducible exact Dr.refl _ _) | (with_reducible assumption) | (with_reducible refine Dr.set ?_ (by (try dsimp only); omega) _) | (with_reducible refine Dr.alloc ?_ _) | (with_reducible refine Dr.drewN ?_ _) | (with_reducible refine Dr.drew ?_) | (with_reducible refine Dr.trans ?_ (by assumption))))
        have hN5 := hN4.set_ 0 (.slice A4 (apS n s).fst.length c4)
        have hO5 := hO4.far (p := ⟨w.heap.size + 1, 0, none⟩) (by dsimp only; omega) (.slice A4 (apS n s).fst.length c4)
        have R5 := (row_setN HR4.out (p := ⟨w.heap.size + 1, 0, none⟩) (by dsimp only; omega) (.slice A4 (apS n s).fst.length c4)).mono (base' := w.heap.size + 1 + 1) (by omega)
        refine hK.out _ _ ?_ (fun hHeld => ?_)
        · (try dsimp only)
          try trivial
        clear hK K
        try simp only [Act.put, List.setIfInBounds_toArray, List.set_cons_zero, List.set_cons_succ]
        refine wpAnyH_done (by kernel_rfl) ?_ _
        refine NoPanic.normal ?_
        go_wp2
        go_roundw
        case rel => exact ⟨k - 1, _, _, rfl, by omega, by omega, C5, D5, hO5, hN5, R5, apS_ok hV⟩
        case measure => simp [intOf]; omega
      · go_simp
        refine hK.out _ _ ?_ (fun hHeld => ?_)
        · (try dsimp only)
          try trivial
        clear hK K
        try simp only [Act.put, List.setIfInBounds_toArray, List.set_cons_zero, List.set_cons_succ]
        refine wpAnyH_ready (rs := [0, 3]) (by kernel_rfl) (by simp) ?_
        refine (AllReadyH.cons (opN rfl) (fun K hK => ?_) (AllReadyH.cons (opN rfl) (fun K hK => ?_) AllReadyH.nil))
        · go_simp
          refine hK.out _ _ ?_ (fun hHeld => ?_)
          · (try dsimp only)
            try trivial
          clear hK K
          try simp only [Act.put, List.setIfInBounds_toArray, List.set_cons_zero, List.set_cons_succ]
          refine wpAnyH_ready (rs := [3]) (by kernel_rfl) (by simp) ?_
          refine (AllReadyH.cons (opN rfl) (fun K hK => ?_) AllReadyH.nil)
          go_simp
          go_at_call 140
          refine (C_spec_l1Str _ B _ [[97], [98], [110, 101, 119, 115], [120, 45, 49], [49], [107, 101, 121]] (by repeat' (first | (with_reducible assumption) | (with_reducible refine Cur.far ?_ (by (try dsimp only); omega) _) | (with_reducible refine Cur.alloc ?_ _) | (with_reducible refine Cur.drewN ?_ _) | (with_reducible refine Cur.drew ?_))) (by repeat (with_reducible refine rd_drewH ?_); exact rd_litsA (by rfl) (by decide) (by first | rfl | simp only [World.size_drew]) (by rfl) (by rfl) (by decide) (by (try simp only [World.size_alloc, World.size_setCell, size_drewN, World.size_drew]); omega)) (by decide) (by decide)).mono ?_
          rintro e w3 ⟨hd3, hc3, s, hs, rfl⟩
          have z3 := hd3.size
          simp only [World.size_alloc, World.size_drew, size_drewN] at z3
          have E3 : Dr B wr w3 := (by repeat' (first | (with_reducible exact Dr.refl _ _) | (with_reducible assumption) | (with_reducible refine Dr.set ?_ (by (try dsimp only); omega) _) | (with_reducible refine Dr.alloc ?_ _) | (with_reducible refine Dr.drewN ?_ _) | (with_reducible refine Dr.drew ?_) | (with_reducible refine Dr.trans ?_ (by assumption))))
          have D3 : Dr B w w3 := hdr.trans E3
          have R3 := Row.dr HR.out E3 (by omega)
          have hO3 : Blk w3 w.heap.size 27 #[.slice none 0 0] := Dr.blk hd3 (by repeat' (first | (with_reducible assumption) | (with_reducible refine Blk.alloc ?_ _) | (with_reducible refine Blk.drewN ?_ _) | (with_reducible refine Blk.drew ?_))) (by omega)
          have hN3 : Blk w3 (w.heap.size + 1) 27 #[.slice A n.length c] := Dr.blk hd3 (by repeat' (first | (with_reducible assumption) | (with_reducible refine Blk.alloc ?_ _) | (with_reducible refine Blk.drewN ?_ _) | (with_reducible refine Blk.drew ?_))) (by omega)
          have kN := hN3.c1
          refine hK.out _ _ ?_ (fun hHeld => ?_)
          · (try dsimp only)
            try trivial
          clear hK K
          try simp only [Act.put, List.setIfInBounds_toArray, List.set_cons_zero, List.set_cons_succ]
          refine wpAnyH_ready (rs := [4]) (by kernel_rfl) (by simp) ?_
          refine (AllReadyH.cons (opN rfl) (fun K hK => ?_) AllReadyH.nil)
          go_simp
          go_at_call 139
          refine (C_spec_AppendPart _ _ n s (Ty.rd_below (by repeat' (first | (with_reducible exact Below.refl _ _) | (with_reducible assumption) | (with_reducible refine bel_set ?_ (by (try dsimp only); omega) _) | (with_reducible refine bel_alloc ?_ _) | (with_reducible refine bel_drewN ?_ _) | (with_reducible refine bel_drew ?_))) (R3.rd (by omega))) (by omega) (l6_len hs)).mono ?_
          rintro e w4 ⟨v4, rfl, hr4, hb4⟩
          have z4 := hb4.size
          (try simp only [World.size_alloc, World.size_drew, size_drewN] at z4)
          have D4 : Dr B w w4 := Dr.then_ (by repeat' (first | (with_reducible exact Dr.refl _ _) | (with_reducible assumption) | (with_reducible refine Dr.set ?_ (by (try dsimp only); omega) _) | (with_reducible refine Dr.alloc ?_ _) | (with_reducible refine Dr.drewN ?_ _) | (with_reducible refine Dr.drew ?_) | (with_reducible refine Dr.trans ?_ (by assumption)))) hb4
          have C4 : CurT w4 B := Cur.below (by repeat' (first | (with_reducible assumption) | (with_reducible refine Cur.far ?_ (by (try dsimp only); omega) _) | (with_reducible refine Cur.alloc ?_ _) | (with_reducible refine Cur.drewN ?_ _) | (with_reducible refine Cur.drew ?_))) hb4
          have hO4 : Blk w4 w.heap.size 27 #[.slice none 0 0] := Blk.below (by repeat' (first | (with_reducible assumption) | (with_reducible refine Blk.alloc ?_ _) | (with_reducible refine Blk.drewN ?_ _) | (with_reducible refine Blk.drew ?_))) hb4 (by omega)
          have hN4 : Blk w4 (w.heap.size + 1) 27 #[.slice A n.length c] := Blk.below (by repeat' (first | (with_reducible assumption) | (with_reducible refine Blk.alloc ?_ _) | (with_reducible refine Blk.drewN ?_ _) | (with_reducible refine Blk.drew ?_))) hb4 (by omega)
          have k4 : w4.cell? ⟨w.heap.size + 1, 0, none⟩ = some (.slice A n.length c) := hN4.cell 0
          have f4 : w4.frozen? ⟨w.heap.size + 1, 0, none⟩ = false := hN4.frozen 0
          have HR4 := Lib.hid hr4
          obtain ⟨A4, c4, rfl⟩ := hr4.form
          clear hr4
          refine hK.out _ _ ?_ (fun hHeld => ?_)
          · (try dsimp only)
            try trivial
          clear hK K
          try simp only [Act.put, List.setIfInBounds_toArray, List.set_cons_zero, List.set_cons_succ]
          refine tk 5 (opN rfl) (by kernel_rfl) (by rfl) (by (intro w hSw; (try dsimp only at hSw); go_simp; first | done | with_reducible rfl)) (by assumption) ?_
          try simp only [Act.put, List.setIfInBounds_toArray, List.set_cons_zero, List.set_cons_succ]
          refine tk 6 (opN rfl) (by kernel_rfl) (by rfl) (by (intro w hSw; (try dsimp only at hSw); go_simp; first | done | with_reducible rfl)) (by assumption) ?_
          try simp only [Act.put, List.setIfInBounds_toArray, List.set_cons_zero, List.set_cons_succ]
          refine tk 7 (opN rfl) (by kernel_rfl) (by rfl) (by (intro w hSw; (try dsimp only at hSw); go_simp; first | done | with_reducible rfl)) (by assumption) ?_
          try simp only [Act.put, List.setIfInBounds_toArray, List.set_cons_zero, List.set_cons_succ]
          refine wpAnyH_ready (rs := [8]) (by kernel_rfl) (by simp) ?_
          refine (AllReadyH.cons (opN rfl) (fun K hK => ?_) AllReadyH.nil)
          go_simp
          have C5 : CurT (w4.setCell ⟨w.heap.size + 1, 0, none⟩ (.slice A4 (apS n s).fst.length c4)) B := (by repeat' (first | (with_reducible assumption) | (with_reducible refine Cur.far ?_ (by (try dsimp only); omega) _) | (with_reducible refine Cur.alloc ?_ _) | (with_reducible refine Cur.drewN ?_ _) | (with_reducible refine Cur.drew ?_)))
          have D5 : Dr B w (w4.setCell ⟨w.heap.size + 1, 0, none⟩ (.slice A4 (apS n s).fst.length c4)) := (by repeat' (first | (with_reducible exact Dr.refl _ _) | (with_reducible assumption) | (with_reducible refine Dr.set ?_ (by (try dsimp only); omega) _) | (with_reducible refine Dr.alloc ?_ _) | (with_reducible refine Dr.drewN ?_ _) | (with_reducible refine Dr.drew ?_) | (with_reducible refine Dr.trans ?_ (by assumption))))
          have hN5 := hN4.set_ 0 (.slice A4 (apS n s).fst.length c4)
          have hO5 := hO4.far (p := ⟨w.heap.size + 1, 0, none⟩) (by dsimp only; omega) (.slice A4 (apS n s).fst.length c4)
          have R5 := (row_setN HR4.out (p := ⟨w.heap.size + 1, 0, none⟩) (by dsimp only; omega) (.slice A4 (apS n s).fst.length c4)).mono (base' := w.heap.size + 1 + 1) (by omega)
          refine hK.out _ _ ?_ (fun hHeld => ?_)
          · (try dsimp only)
            try trivial
          clear hK K
          try simp only [Act.put, List.setIfInBounds_toArray, List.set_cons_zero, List.set_cons_succ]
          refine wpAnyH_done (by kernel_rfl) ?_ _
          refine NoPanic.normal ?_
          go_wp2
          go_roundw
          case rel => exact ⟨k - 1, _, _, rfl, by omega, by omega, C5, D5, hO5, hN5, R5, apS_ok hV⟩
          case measure => simp [intOf]; omega
        · go_simp
          go_at_call 140
          refine (C_spec_l1Str _ B _ [[97], [98], [110, 101, 119, 115], [120, 45, 49], [49], [107, 101, 121]] (by repeat' (first | (with_reducible assumption) | (with_reducible refine Cur.far ?_ (by (try dsimp only); omega) _) | (with_reducible refine Cur.alloc ?_ _) | (with_reducible refine Cur.drewN ?_ _) | (with_reducible refine Cur.drew ?_))) (by repeat (with_reducible refine rd_drewH ?_); exact rd_litsA (by rfl) (by decide) (by first | rfl | simp only [World.size_drew]) (by rfl) (by rfl) (by decide) (by (try simp only [World.size_alloc, World.size_setCell, size_drewN, World.size_drew]); omega)) (by decide) (by decide)).mono ?_
          rintro e w3 ⟨hd3, hc3, s, hs, rfl⟩
          have z3 := hd3.size
          simp only [World.size_alloc, World.size_drew, size_drewN] at z3
          have E3 : Dr B wr w3 := (by repeat' (first | (with_reducible exact Dr.refl _ _) | (with_reducible assumption) | (with_reducible refine Dr.set ?_ (by (try dsimp only); omega) _) | (with_reducible refine Dr.alloc ?_ _) | (with_reducible refine Dr.drewN ?_ _) | (with_reducible refine Dr.drew ?_) | (with_reducible refine Dr.trans ?_ (by assumption))))
          have D3 : Dr B w w3 := hdr.trans E3
          have R3 := Row.dr HR.out E3 (by omega)
          have hO3 : Blk w3 w.heap.size 27 #[.slice none 0 0] := Dr.blk hd3 (by repeat' (first | (with_reducible assumption) | (with_reducible refine Blk.alloc ?_ _) | (with_reducible refine Blk.drewN ?_ _) | (with_reducible refine Blk.drew ?_))) (by omega)
          have hN3 : Blk w3 (w.heap.size + 1) 27 #[.slice A n.length c] := Dr.blk hd3 (by repeat' (first | (with_reducible assumption) | (with_reducible refine Blk.alloc ?_ _) | (with_reducible refine Blk.drewN ?_ _) | (with_reducible refine Blk.drew ?_))) (by omega)
          have kN := hN3.c1
          refine hK.out _ _ ?_ (fun hHeld => ?_)
          · (try dsimp only)
            try trivial
          clear hK K
          try simp only [Act.put, List.setIfInBounds_toArray, List.set_cons_zero, List.set_cons_succ]
          refine wpAnyH_ready (rs := [0]) (by kernel_rfl) (by simp) ?_
          refine (AllReadyH.cons (opN rfl) (fun K hK => ?_) AllReadyH.nil)
          go_simp
          refine hK.out _ _ ?_ (fun hHeld => ?_)
          · (try dsimp only)
            try trivial
          clear hK K
          try simp only [Act.put, List.setIfInBounds_toArray, List.set_cons_zero, List.set_cons_succ]
          refine wpAnyH_ready (rs := [4]) (by kernel_rfl) (by simp) ?_
          refine (AllReadyH.cons (opN rfl) (fun K hK => ?_) AllReadyH.nil)
          go_simp
          go_at_call 139
          refine (C_spec_AppendPart _ _ n s (Ty.rd_below (by repeat' (first | (with_reducible exact Below.refl _ _) | (with_reducible assumption) | (with_reducible refine bel_set ?_ (by (try dsimp only); omega) _) | (with_reducible refine bel_alloc ?_ _) | (with_reducible refine bel_drewN ?_ _) | (with_reducible refine bel_drew ?_))) (R3.rd (by omega))) (by omega) (l6_len hs)).mono ?_
          rintro e w4 ⟨v4, rfl, hr4, hb4⟩
          have z4 := hb4.size
          (try simp only [World.size_alloc, World.size_drew, size_drewN] at z4)
          have D4 : Dr B w w4 := Dr.then_ (by repeat' (first | (with_reducible exact Dr.refl _ _) | (with_reducible assumption) | (with_reducible refine Dr.set ?_ (by (try dsimp only); omega) _) | (with_reducible refine Dr.alloc ?_ _) | (with_reducible refine Dr.drewN ?_ _) | (with_reducible refine Dr.drew ?_) | (with_reducible refine Dr.trans ?_ (by assumption)))) hb4
          have C4 : CurT w4 B := Cur.below (by repeat' (first | (with_reducible assumption) | (with_reducible refine Cur.far ?_ (by (try dsimp only); omega) _) | (with_reducible refine Cur.alloc ?_ _) | (with_reducible refine Cur.drewN ?_ _) | (with_reducible refine Cur.drew ?_))) hb4
          have hO4 : Blk w4 w.heap.size 27 #[.slice none 0 0] := Blk.below (by repeat' (first | (with_reducible assumption) | (with_reducible refine Blk.alloc ?_ _) | (with_reducible refine Blk.drewN ?_ _) | (with_reducible refine Blk.drew ?_))) hb4 (by omega)
          have hN4 : Blk w4 (w.heap.size + 1) 27 #[.slice A n.length c] := Blk.below (by repeat' (first | (with_reducible assumption) | (with_reducible refine Blk.alloc ?_ _) | (with_reducible refine Blk.drewN ?_ _) | (with_reducible refine Blk.drew ?_))) hb4 (by omega)
          have k4 : w4.cell? ⟨w.heap.size + 1, 0, none⟩ = some (.slice A n.length c) := hN4.cell 0
          have f4 : w4.frozen? ⟨w.heap.size + 1, 0, none⟩ = false := hN4.frozen 0
          have HR4 := Lib.hid hr4
          obtain ⟨A4, c4, rfl⟩ := hr4.form
          clear hr4
          refine hK.out _ _ ?_ (fun hHeld => ?_)
          · (try dsimp only)
            try trivial
          clear hK K
          try simp only [Act.put, List.setIfInBounds_toArray, List.set_cons_zero, List.set_cons_succ]
          refine tk 5 (opN rfl) (by kernel_rfl) (by rfl) (by (intro w hSw; (try dsimp only at hSw); go_simp; first | done | with_reducible rfl)) (by assumption) ?_
          try simp only [Act.put, List.setIfInBounds_toArray, List.set_cons_zero, List.set_cons_succ]
          refine tk 6 (opN rfl) (by kernel_rfl) (by rfl) (by (intro w hSw; (try dsimp only at hSw); go_simp; first | done | with_reducible rfl)) (by assumption) ?_
          try simp only [Act.put, List.setIfInBounds_toArray, List.set_cons_zero, List.set_cons_succ]
          refine tk 7 (opN rfl) (by kernel_rfl) (by rfl) (by (intro w hSw; (try dsimp only at hSw); go_simp; first | done | with_reducible rfl)) (by assumption) ?_
          try simp only [Act.put, List.setIfInBounds_toArray, List.set_cons_zero, List.set_cons_succ]
          refine wpAnyH_ready (rs := [8]) (by kernel_rfl) (by simp) ?_
          refine (AllReadyH.cons (opN rfl) (fun K hK => ?_) AllReadyH.nil)
          go_simp
          have C5 : CurT (w4.setCell ⟨w.heap.size + 1, 0, none⟩ (.slice A4 (apS n s).fst.length c4)) B := (by repeat' (first | (with_reducible assumption) | (with_reducible refine Cur.far ?_ (by (try dsimp only); omega) _) | (with_reducible refine Cur.alloc ?_ _) | (with_reducible refine Cur.drewN ?_ _) | (with_reducible refine Cur.drew ?_)))
          have D5 : Dr B w (w4.setCell ⟨w.heap.size + 1, 0, none⟩ (.slice A4 (apS n s).fst.length c4)) := (by repeat' (first | (with_reducible exact Dr.refl _ _) | (with_reducible assumption) | (with_reducible refine Dr.set ?_ (by (try dsimp only); omega) _) | (with_reducible refine Dr.alloc ?_ _) | (with_reducible refine Dr.drewN ?_ _) | (with_reducible refine Dr.drew ?_) | (with_reducible refine Dr.trans ?_ (by assumption))))
          have hN5 := hN4.set_ 0 (.slice A4 (apS n s).fst.length c4)
          have hO5 := hO4.far (p := ⟨w.heap.size + 1, 0, none⟩) (by dsimp only; omega) (.slice A4 (apS n s).fst.length c4)
          have R5 := (row_setN HR4.out (p := ⟨w.heap.size + 1, 0, none⟩) (by dsimp only; omega) (.slice A4 (apS n s).fst.length c4)).mono (base' := w.heap.size + 1 + 1) (by omega)
          refine hK.out _ _ ?_ (fun hHeld => ?_)
          · (try dsimp only)
            try trivial
          clear hK K
          try simp only [Act.put, List.setIfInBounds_toArray, List.set_cons_zero, List.set_cons_succ]
          refine wpAnyH_done (by kernel_rfl) ?_ _
          refine NoPanic.normal ?_
          go_wp2
          go_roundw
          case rel => exact ⟨k - 1, _, _, rfl, by omega, by omega, C5, D5, hO5, hN5, R5, apS_ok hV⟩
          case measure => simp [intOf]; omega
    · have fO : wr.frozen? ⟨w.heap.size, 0, none⟩ = false := hO.f1
      have zO := hO.lt
      have CO : CurT (wr.setCell ⟨w.heap.size, 0, none⟩ (.slice A n.length c)) B := (by repeat' (first | (with_reducible assumption) | (with_reducible refine Cur.far ?_ (by (try dsimp only); omega) _) | (with_reducible refine Cur.alloc ?_ _) | (with_reducible refine Cur.drewN ?_ _) | (with_reducible refine Cur.drew ?_)))
      go_wp2
      refine bodyPost_ret (v := .agg #[.slice A n.length c]) (by simp [results, Try.results68, go_sem, kO, fO, zO]) rfl ?_
      exact ⟨(by repeat' (first | (with_reducible exact Dr.refl _ _) | (with_reducible assumption) | (with_reducible refine Dr.set ?_ (by (try dsimp only); omega) _) | (with_reducible refine Dr.alloc ?_ _) | (with_reducible refine Dr.drewN ?_ _) | (with_reducible refine Dr.drew ?_) | (with_reducible refine Dr.trans ?_ (by assumption)))), CO, _, rfl, _, (row_setN HR.out (by dsimp only; omega) _).mono (by omega), hV⟩
end Go.Proofs.Ytldgbnlcnlfmeaa
