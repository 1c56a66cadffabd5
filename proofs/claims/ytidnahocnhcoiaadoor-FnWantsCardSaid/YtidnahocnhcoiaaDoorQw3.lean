/- Texts of this claim, merged by a program: Nmn Dow Idr Wnt Drf. -/
import Derived.Test.YtidnahocnhcoiaaDoorQwP
import Derived.Test.YtidnahocnhcoiaaDoorQw2
import Derived.Deep.RegionHeld3
import Derived.Test.YtidnahocnhcoiaaDoorQw1
namespace Go.Proofs.YtidnahocnhcoiaaDoor
open Go.RowKit
set_option linter.unusedVariables false
set_option linter.unusedSimpArgs false
theorem Blk.c1 {w : World} {g : Nat} {t : TypeId} {v : Value} (h : Blk w g t #[v]) : w.cell? ⟨g, 0, none⟩ = some v := h.cell 0
theorem Blk.f1 {w : World} {g i : Nat} {t : TypeId} {cs : Array Value} (h : Blk w g t cs) : w.frozen? ⟨g, i, none⟩ = false := h.frozen i
theorem rd_litsA {B : Nat} {w : World} {te : TypeId} {l : List (List UInt8)} {arr : Array Value} {g n c : Nat} (ha : arr = (l.map flatS.enc).toArray) (hl : (l.all fun s => decide (s.length ≤ 256)) = true) (hg : g = w.heap.size) (hn : n = l.length) (hc : c = n) (h256 : l.length ≤ 256) (hB : B < w.heap.size) :
  (Ty.sl .str).rd (hide B (w.alloc (.cells arr te))) [.slice (some ⟨g, 0, none⟩) n c] l := by
 subst ha hg hn hc
 exact rd_lits B w te l (fun s hs => by have := List.all_eq_true.1 hl s hs; simp only [decide_eq_true_eq] at this; omega) h256 hB
theorem rd_litiA {B : Nat} {w : World} {te : TypeId} {l : List Int} {arr : Array Value} {g n c : Nat} (ha : arr = (l.map flatI.enc).toArray) (hl : (l.all fun s => decide (-9223372036854775808 ≤ s ∧ s ≤ 9223372036854775807)) = true) (hg : g = w.heap.size) (hn : n = l.length) (hc : c = n) (h256 : l.length ≤ 256) (hB : B < w.heap.size) :
  (Ty.sl .int).rd (hide B (w.alloc (.cells arr te))) [.slice (some ⟨g, 0, none⟩) n c] l := by
 subst ha hg hn hc
 exact rd_liti B w te l (fun s hs => by have := List.all_eq_true.1 hl s hs; simpa only [decide_eq_true_eq] using this) h256 hB
theorem apS_ok {n : List (List UInt8)} {s : List UInt8} (h : validName n = true) : validName (apS n s).1 = true := by
 unfold apS; split
 ·assumption
 ·exact h
theorem validName_len {n : List (List UInt8)} (h : validName n = true) : n.length ≤ 6 := by
 unfold validName at h
 simp only [Bool.and_eq_true, decide_eq_true_eq] at h
 exact h.2
theorem l6_len {s : List UInt8} (h : s ∈ [[97], [98], [110, 101, 119, 115], [120, 45, 49], [49], [107, 101, 121]]) : s.length ≤ 1000000 := by
 simp at h
 rcases h with rfl | rfl | rfl | rfl | rfl | rfl <;> simp
set_option maxRecDepth 100000 in
set_option maxHeartbeats 2000000 in
theorem C_spec_l4Name (w : World) (B : Nat) (hc : CurT w B) :
  Calls Tryd.prog 63 #[pB B] w (RetDT B w (fun e w' => ∃ v n, e = .returned (.agg #[v]) ∧ Row flatS w' w.heap.size 9 v n ∧ validName n = true)) := by
 have hB := hc.lt
 go_enter Tryd.func63, Tryd.ntmps63
 go_wp2_with fail
 refine (C_spec_l1Below _ B 4 b_6 b_17 b_17).mono ?_
 rintro e w1 ⟨hd1, hc1, x, rfl, hx0, hx1⟩
 have hO1 : Blk w1 w.heap.size 26 #[.slice none 0 0] := Dr.blk hd1 ((Blk.new w _ _).alloc _) b_18
 have hN1 : Blk w1 (w.heap.size + 1) 26 #[.slice none 0 0] := Dr.blk hd1 (by have := Blk.new (w.alloc (.cells #[.slice none 0 0] 26)) 26 #[.slice none 0 0]; rwa [World.size_alloc] at this) b_18
 have hD1 : Dr B w w1 := b_1
 have z1 := hd1.size
 simp only [World.size_alloc] at z1
 go_wp2
 go_loopw [4] (fun i wr => ∃ (k : Int) (v : Value) (n : List (List UInt8)), i = .int .i64 k ∧ k ≤ 3 ∧ 0 ≤ k ∧ CurT wr B ∧ Dr B w wr ∧ Blk wr w.heap.size 26 #[.slice none 0 0] ∧ Blk wr (w.heap.size + 1) 26 #[v] ∧ Row flatS wr (w.heap.size + 1 + 1) 9 v n ∧ validName n = true) (fun i _ => (intOf i).toNat)
 case atStart => exact ⟨x, _, [], rfl, by omega, by omega, hc1, hD1, hO1, hN1, Row.nil _ _ _ _, rfl⟩
 case round =>
  obtain ⟨k, v, n, rfl, hk3, hk0, hcr, hdr, hO, hN, hR, hV⟩ := hrel
  have zr : w.heap.size + 1 < wr.heap.size := hN.lt
  have kO := hO.c1
  have kN : wr.cell? ⟨w.heap.size + 1, 0, none⟩ = some v := hN.cell 0
  have fN : wr.frozen? ⟨w.heap.size + 1, 0, none⟩ = false := hN.frozen 0
  obtain ⟨A, c, rfl⟩ := hR.form
  have HR := Lib.hid hR
  have hnl := validName_len hV
  clear hR hO1 hN1 hD1 hd1
  by_cases hlt : 0 < k
  ·go_wp2_with fail
   refine wp_region_noPanic ?_
   refine wp_region_held_drew (S := (fun _ => True)) b_15 ?_ (fun hHeld => ?_)
   ·trivial
   refine tkz 1 ?_
   try simp only [layz]
   refine rz2 0 2 (fun K hK => ?_) (fun K hK => ?_)
   ·go_simp
    refine hK.out _ _ ?_ (fun hHeld => ?_)
    ·(try dsimp only)
     try trivial
    clear hK K
    try simp only [layz]
    refine rz1 2 (fun K hK => ?_)
    go_simp
    refine hK.out _ _ ?_ (fun hHeld => ?_)
    ·(try dsimp only)
     try trivial
    clear hK K
    try simp only [layz]
    refine rz1 3 (fun K hK => ?_)
    go_simp
    go_at_call 65
    refine (C_spec_l1Str _ B _ [[97], [98], [110, 101, 119, 115], [120, 45, 49], [49], [107, 101, 121]] b_6 b_4 b_17 b_17).mono ?_
    rintro e w3 ⟨hd3, hc3, s, hs, rfl⟩
    have z3 := hd3.size
    simp only [World.size_alloc, World.size_drew, size_drewN] at z3
    have E3 : Dr B wr w3 := b_1
    have D3 : Dr B w w3 := hdr.trans E3
    have R3 := Row.dr HR.out E3 b_18
    have hO3 : Blk w3 w.heap.size 26 #[.slice none 0 0] := Dr.blk hd3 b_9 b_18
    have hN3 : Blk w3 (w.heap.size + 1) 26 #[.slice A n.length c] := Dr.blk hd3 b_9 b_18
    have kN := hN3.c1
    refine hK.out _ _ ?_ (fun hHeld => ?_)
    ·(try dsimp only)
     try trivial
    clear hK K
    try simp only [layz]
    refine rz1 4 (fun K hK => ?_)
    go_simp
    go_at_call 75
    refine (C_spec_AppendPart _ _ n s (Ty.rd_below b_3 (R3.rd b_18)) b_18 (l6_len hs)).mono ?_
    rintro e w4 ⟨v4, rfl, hr4, hb4⟩
    have z4 := hb4.size
    (try simp only [World.size_alloc, World.size_drew, size_drewN] at z4)
    have D4 : Dr B w w4 := Dr.then_ b_1 hb4
    have C4 : CurT w4 B := Cur.below b_6 hb4
    have hO4 : Blk w4 w.heap.size 26 #[.slice none 0 0] := Blk.below b_9 hb4 b_18
    have hN4 : Blk w4 (w.heap.size + 1) 26 #[.slice A n.length c] := Blk.below b_9 hb4 b_18
    have k4 : w4.cell? ⟨w.heap.size + 1, 0, none⟩ = some (.slice A n.length c) := hN4.cell 0
    have f4 : w4.frozen? ⟨w.heap.size + 1, 0, none⟩ = false := hN4.frozen 0
    have HR4 := Lib.hid hr4
    obtain ⟨A4, c4, rfl⟩ := hr4.form
    clear hr4
    refine hK.out _ _ ?_ (fun hHeld => ?_)
    ·(try dsimp only)
     try trivial
    clear hK K
    try simp only [layz]
    refine tkz3 5 6 7 ?_
    try simp only [layz]
    refine rz1 8 (fun K hK => ?_)
    go_simp
    have C5 : CurT (w4.setCell ⟨w.heap.size + 1, 0, none⟩ (.slice A4 (apS n s).fst.length c4)) B := b_6
    have D5 : Dr B w (w4.setCell ⟨w.heap.size + 1, 0, none⟩ (.slice A4 (apS n s).fst.length c4)) := b_1
    have hN5 := hN4.set_ 0 (.slice A4 (apS n s).fst.length c4)
    have hO5 := hO4.far (p := ⟨w.heap.size + 1, 0, none⟩) b_14 (.slice A4 (apS n s).fst.length c4)
    have R5 := (row_setN HR4.out (p := ⟨w.heap.size + 1, 0, none⟩) b_14 (.slice A4 (apS n s).fst.length c4)).mono (base' := w.heap.size + 1 + 1) b_18
    refine hK.out _ _ ?_ (fun hHeld => ?_)
    ·(try dsimp only)
     try trivial
    clear hK K
    try simp only [layz]
    refine wpAnyH_done b_15 ?_ _
    refine NoPanic.normal ?_
    go_wp2
    go_roundw
    case rel => exact ⟨k - 1, _, _, rfl, by omega, by omega, C5, D5, hO5, hN5, R5, apS_ok hV⟩
    case measure => simp [intOf]; omega
   ·go_simp
    refine hK.out _ _ ?_ (fun hHeld => ?_)
    ·(try dsimp only)
     try trivial
    clear hK K
    try simp only [layz]
    refine rz2 0 3 (fun K hK => ?_) (fun K hK => ?_)
    ·go_simp
     refine hK.out _ _ ?_ (fun hHeld => ?_)
     ·(try dsimp only)
      try trivial
     clear hK K
     try simp only [layz]
     refine rz1 3 (fun K hK => ?_)
     go_simp
     go_at_call 65
     refine (C_spec_l1Str _ B _ [[97], [98], [110, 101, 119, 115], [120, 45, 49], [49], [107, 101, 121]] b_6 b_4 b_17 b_17).mono ?_
     rintro e w3 ⟨hd3, hc3, s, hs, rfl⟩
     have z3 := hd3.size
     simp only [World.size_alloc, World.size_drew, size_drewN] at z3
     have E3 : Dr B wr w3 := b_1
     have D3 : Dr B w w3 := hdr.trans E3
     have R3 := Row.dr HR.out E3 b_18
     have hO3 : Blk w3 w.heap.size 26 #[.slice none 0 0] := Dr.blk hd3 b_9 b_18
     have hN3 : Blk w3 (w.heap.size + 1) 26 #[.slice A n.length c] := Dr.blk hd3 b_9 b_18
     have kN := hN3.c1
     refine hK.out _ _ ?_ (fun hHeld => ?_)
     ·(try dsimp only)
      try trivial
     clear hK K
     try simp only [layz]
     refine rz1 4 (fun K hK => ?_)
     go_simp
     go_at_call 75
     refine (C_spec_AppendPart _ _ n s (Ty.rd_below b_3 (R3.rd b_18)) b_18 (l6_len hs)).mono ?_
     rintro e w4 ⟨v4, rfl, hr4, hb4⟩
     have z4 := hb4.size
     (try simp only [World.size_alloc, World.size_drew, size_drewN] at z4)
     have D4 : Dr B w w4 := Dr.then_ b_1 hb4
     have C4 : CurT w4 B := Cur.below b_6 hb4
     have hO4 : Blk w4 w.heap.size 26 #[.slice none 0 0] := Blk.below b_9 hb4 b_18
     have hN4 : Blk w4 (w.heap.size + 1) 26 #[.slice A n.length c] := Blk.below b_9 hb4 b_18
     have k4 : w4.cell? ⟨w.heap.size + 1, 0, none⟩ = some (.slice A n.length c) := hN4.cell 0
     have f4 : w4.frozen? ⟨w.heap.size + 1, 0, none⟩ = false := hN4.frozen 0
     have HR4 := Lib.hid hr4
     obtain ⟨A4, c4, rfl⟩ := hr4.form
     clear hr4
     refine hK.out _ _ ?_ (fun hHeld => ?_)
     ·(try dsimp only)
      try trivial
     clear hK K
     try simp only [layz]
     refine tkz3 5 6 7 ?_
     try simp only [layz]
     refine rz1 8 (fun K hK => ?_)
     go_simp
     have C5 : CurT (w4.setCell ⟨w.heap.size + 1, 0, none⟩ (.slice A4 (apS n s).fst.length c4)) B := b_6
     have D5 : Dr B w (w4.setCell ⟨w.heap.size + 1, 0, none⟩ (.slice A4 (apS n s).fst.length c4)) := b_1
     have hN5 := hN4.set_ 0 (.slice A4 (apS n s).fst.length c4)
     have hO5 := hO4.far (p := ⟨w.heap.size + 1, 0, none⟩) b_14 (.slice A4 (apS n s).fst.length c4)
     have R5 := (row_setN HR4.out (p := ⟨w.heap.size + 1, 0, none⟩) b_14 (.slice A4 (apS n s).fst.length c4)).mono (base' := w.heap.size + 1 + 1) b_18
     refine hK.out _ _ ?_ (fun hHeld => ?_)
     ·(try dsimp only)
      try trivial
     clear hK K
     try simp only [layz]
     refine wpAnyH_done b_15 ?_ _
     refine NoPanic.normal ?_
     go_wp2
     go_roundw
     case rel => exact ⟨k - 1, _, _, rfl, by omega, by omega, C5, D5, hO5, hN5, R5, apS_ok hV⟩
     case measure => simp [intOf]; omega
    ·go_simp
     go_at_call 65
     refine (C_spec_l1Str _ B _ [[97], [98], [110, 101, 119, 115], [120, 45, 49], [49], [107, 101, 121]] b_6 b_4 b_17 b_17).mono ?_
     rintro e w3 ⟨hd3, hc3, s, hs, rfl⟩
     have z3 := hd3.size
     simp only [World.size_alloc, World.size_drew, size_drewN] at z3
     have E3 : Dr B wr w3 := b_1
     have D3 : Dr B w w3 := hdr.trans E3
     have R3 := Row.dr HR.out E3 b_18
     have hO3 : Blk w3 w.heap.size 26 #[.slice none 0 0] := Dr.blk hd3 b_9 b_18
     have hN3 : Blk w3 (w.heap.size + 1) 26 #[.slice A n.length c] := Dr.blk hd3 b_9 b_18
     have kN := hN3.c1
     refine hK.out _ _ ?_ (fun hHeld => ?_)
     ·(try dsimp only)
      try trivial
     clear hK K
     try simp only [layz]
     refine rz1 0 (fun K hK => ?_)
     go_simp
     refine hK.out _ _ ?_ (fun hHeld => ?_)
     ·(try dsimp only)
      try trivial
     clear hK K
     try simp only [layz]
     refine rz1 4 (fun K hK => ?_)
     go_simp
     go_at_call 75
     refine (C_spec_AppendPart _ _ n s (Ty.rd_below b_3 (R3.rd b_18)) b_18 (l6_len hs)).mono ?_
     rintro e w4 ⟨v4, rfl, hr4, hb4⟩
     have z4 := hb4.size
     (try simp only [World.size_alloc, World.size_drew, size_drewN] at z4)
     have D4 : Dr B w w4 := Dr.then_ b_1 hb4
     have C4 : CurT w4 B := Cur.below b_6 hb4
     have hO4 : Blk w4 w.heap.size 26 #[.slice none 0 0] := Blk.below b_9 hb4 b_18
     have hN4 : Blk w4 (w.heap.size + 1) 26 #[.slice A n.length c] := Blk.below b_9 hb4 b_18
     have k4 : w4.cell? ⟨w.heap.size + 1, 0, none⟩ = some (.slice A n.length c) := hN4.cell 0
     have f4 : w4.frozen? ⟨w.heap.size + 1, 0, none⟩ = false := hN4.frozen 0
     have HR4 := Lib.hid hr4
     obtain ⟨A4, c4, rfl⟩ := hr4.form
     clear hr4
     refine hK.out _ _ ?_ (fun hHeld => ?_)
     ·(try dsimp only)
      try trivial
     clear hK K
     try simp only [layz]
     refine tkz3 5 6 7 ?_
     try simp only [layz]
     refine rz1 8 (fun K hK => ?_)
     go_simp
     have C5 : CurT (w4.setCell ⟨w.heap.size + 1, 0, none⟩ (.slice A4 (apS n s).fst.length c4)) B := b_6
     have D5 : Dr B w (w4.setCell ⟨w.heap.size + 1, 0, none⟩ (.slice A4 (apS n s).fst.length c4)) := b_1
     have hN5 := hN4.set_ 0 (.slice A4 (apS n s).fst.length c4)
     have hO5 := hO4.far (p := ⟨w.heap.size + 1, 0, none⟩) b_14 (.slice A4 (apS n s).fst.length c4)
     have R5 := (row_setN HR4.out (p := ⟨w.heap.size + 1, 0, none⟩) b_14 (.slice A4 (apS n s).fst.length c4)).mono (base' := w.heap.size + 1 + 1) b_18
     refine hK.out _ _ ?_ (fun hHeld => ?_)
     ·(try dsimp only)
      try trivial
     clear hK K
     try simp only [layz]
     refine wpAnyH_done b_15 ?_ _
     refine NoPanic.normal ?_
     go_wp2
     go_roundw
     case rel => exact ⟨k - 1, _, _, rfl, by omega, by omega, C5, D5, hO5, hN5, R5, apS_ok hV⟩
     case measure => simp [intOf]; omega
  ·have fO : wr.frozen? ⟨w.heap.size, 0, none⟩ = false := hO.f1
   have zO := hO.lt
   have CO : CurT (wr.setCell ⟨w.heap.size, 0, none⟩ (.slice A n.length c)) B := b_6
   go_wp2
   refine bodyPost_ret (v := .agg #[.slice A n.length c]) (by simp [results, Tryd.results63, go_sem, kO, fO, zO]) rfl ?_
   exact ⟨b_1, CO, _, rfl, _, (row_setN HR.out b_14 _).mono b_18, hV⟩
section
variable {t : Ty} {w w' : World} {cs : List Value} {x : t.D} {fp : List Nat} {lo hi B : Nat}
theorem owSet (h : t.ow w cs x fp) (hf : FrI lo hi fp) {p : Addr} (hp : p.block < lo) (u : Value) : t.ow (w.setCell p u) cs x fp :=
 Ty.ow_keep (fun b hb => Below.heap_setCell _ _ _ _ (by have := (hf.2 b hb).1; omega)) h
theorem owDr (h : t.ow w cs x fp) (hf : FrI lo hi fp) (hB : B < lo) (hd : Dr B w w') : t.ow w' cs x fp := Dr.ow hd h (fun hm => by have := (hf.2 _ hm).1; omega)
end
theorem Row.ow {e : Ty} {F : Flat e} {w : World} {base : Nat} {te : TypeId} {A : Option Addr} {c n : Nat} {x : List e.D} (h : Row F w base te (.slice A n c) x) (hb : base ≤ w.heap.size) : ∃ fp, (Ty.sl e).ow w [.slice A n c] x fp ∧ FrI base w.heap.size fp := by
 obtain ⟨A', c', fp, hv, how, hfr⟩ := h.own hb
 exact ⟨fp, how, hfr⟩
theorem Row.litA {w : World} {te : TypeId} {l : List (List UInt8)} {arr : Array Value} {g n c base : Nat} (ha : arr = (l.map flatS.enc).toArray) (hl : (l.all fun s => decide (s.length ≤ 256)) = true) (hg : g = w.heap.size) (hn : n = l.length) (hc : c = n) (h256 : l.length ≤ 256) (hb : base ≤ w.heap.size) :
  Row flatS (w.alloc (.cells arr te)) base te (.slice (some ⟨g, 0, none⟩) n c) l := by
 subst ha hg hn hc
 exact ⟨World.ownsRow_lit w (l.map flatS.enc).toArray l.length hb (by unfold maxLen; omega) b_19, fun s hs => by have := List.all_eq_true.1 hl s hs; simp only [decide_eq_true_eq] at this; show s.length ≤ _; omega⟩
def DrA (t : Ty) (w : World) (ok : t.D → Prop) (e : Ending) (w' : World) : Prop := ∃ cs x fp, e = .returned (.agg cs.toArray) ∧ t.ow w' cs x fp ∧ FrI w.heap.size w'.heap.size fp ∧ ok x
def DrS (t : Ty) (w : World) (ok : List t.D → Prop) (e : Ending) (w' : World) : Prop := ∃ A x c fp, e = .returned (.slice A (List.length x) c) ∧ (Ty.sl t).ow w' [.slice A (List.length x) c] x fp ∧ FrI w.heap.size w'.heap.size fp ∧ ok x
theorem Dr.grown {B : Nat} {w w1 w' : World} {row : Option Nat} (h : Dr B w w1) (hg : w1.grownBy w' row) (hr : ∀ g, row = some g → w.heap.size ≤ g) : Dr B w w' := by
 have h1 := h.size
 refine ⟨hg.os.trans h.os, hg.tape.trans h.tape, hg.output.trans h.output, by rw [hide_size, hide_size]; have := hg.size; omega, fun k hk => ?_⟩
 by_cases e : k = B
 ·subst e
  rw [hide_same (by have := hg.size; omega), hide_same hk]
 ·rw [hide_other e, hide_other e, hg.block k b_18 (fun e' => by have := hr k e'.symm; omega)]
  have := Below.block h k hk
  rw [hide_other e, hide_other e] at this
  exact this
def lenVd : Value → Nat
 | .slice _ n _ => n
 | _ => 0
theorem name_bulk {n : List (List UInt8)} (h : validName n = true) : Ty.bulk (.sl .str) n ≤ 54 := by
 have h6 := validName_len h
 have h8 : ∀ s ∈ n, s.length ≤ 8 := fun s hs => by
  unfold validName at h
  simp only [Bool.and_eq_true, List.all_eq_true] at h
  have := h.1 s hs
  unfold validPart at this
  simp only [Bool.and_eq_true, decide_eq_true_eq] at this
  omega
 have key : ∀ n : List (List UInt8), (∀ s ∈ n, s.length ≤ 8) → Ty.bulk (.sl .str) n ≤ n.length * 9 := by
  intro n
  induction n with
  | nil => intro _; exact Nat.le_refl _
  | cons a n ih =>
   intro h
   have h1 := ih (fun s hs => h s (List.mem_cons_of_mem _ hs))
   have h2 := h a (List.mem_cons_self ..)
   have h3 := bulk_app (e := .str) [a] n
   have h4 := bulk_one (e := .str) a
   rw [List.singleton_append] at h3
   have h5 : Ty.bulk .str a = a.length := rfl
   rw [h3, h4, h5, List.length_cons]
   omega
 have := key n h8
 omega
def okW (q : tInterest.D) : Prop := validName q.1 = true ∧ 0 < q.1.length ∧ (0 ≤ q.2.1 ∧ q.2.1 ≤ 8) ∧ (0 ≤ q.2.2.1 ∧ q.2.2.1 ≤ 4) ∧ (1 ≤ q.2.2.2 ∧ q.2.2.2 ≤ 6)
theorem ow_Interest_mkD {w : World} {q : tInterest.D} {v0 : Value} {fp : List Nat} (h0 : (Ty.sl .str).ow w [v0] q.1 fp) (h1 : -9223372036854775808 ≤ q.2.1 ∧ q.2.1 ≤ 9223372036854775807) (h2 : -9223372036854775808 ≤ q.2.2.1 ∧ q.2.2.1 ≤ 9223372036854775807) (h3 : -9223372036854775808 ≤ q.2.2.2 ∧ q.2.2.2 ≤ 9223372036854775807) :
  tInterest.ow w [v0, .int .i64 q.2.1, .int .i64 q.2.2.1, .int .i64 q.2.2.2] q fp :=
 ⟨[v0], _, fp, [], rfl, (List.append_nil _).symm, h0, [_], _, [], [], rfl, rfl, ⟨⟨rfl, h1⟩, rfl⟩, [_], [_], [], [], rfl, rfl, ⟨⟨rfl, h2⟩, rfl⟩, ⟨⟨rfl, h3⟩, rfl⟩⟩
set_option maxRecDepth 100000 in
set_option maxHeartbeats 2000000 in
theorem C_spec_l7Draw (w : World) (B : Nat) (hc : CurT w B) :
  Calls Tryd.prog 33 #[pB B] w (RetDT B w (DrA tInterest w okW)) := by
 have hB := hc.lt
 go_enter Tryd.func33, Tryd.ntmps33
 go_wp2_with fail
 refine (C_spec_l4Name _ B b_6).mono ?_
 rintro e w1 ⟨hd1, hc1, v, n, rfl, hR, hV⟩
 have z1 := hd1.size
 simp only [World.size_alloc] at z1
 have hO1 : Blk w1 w.heap.size 28 #[.slice none 0 0, .int .i64 0, .int .i64 0, .int .i64 0] := Dr.blk hd1 (Blk.new w _ _) b_18
 have hD1 : Dr B w w1 := b_1
 obtain ⟨A, c, rfl⟩ := hR.form
 have HR := Lib.hid hR
 rw [World.size_alloc] at HR
 clear hR
 by_cases h0 : n.length = 0
 ·go_wp2_with fail
  obtain ⟨WT, hWT⟩ : ∃ WT, WT = ((w1.alloc (Obj.cells #[Value.slice (some { block := w1.heap.size + 1, off := 0 }) 1 1] 26)).alloc (Obj.cells #[Value.string { data := #[97] }] 9)) := ⟨_, rfl⟩
  obtain ⟨vn, hvn⟩ : ∃ vn, vn = Value.slice (some { block := w1.heap.size + 1, off := 0 }) 1 1 := ⟨_, rfl⟩
  have CT : CurT WT B := by rw [hWT]; exact b_6
  have ET : Dr B w1 WT := by rw [hWT]; exact b_1
  have DT : Dr B w WT := hD1.trans ET
  have HO := Dr.blk ET hO1 b_18
  have HN : Blk WT w1.heap.size 26 #[vn] := by rw [hWT, hvn]; exact (Blk.new _ _ _).alloc _
  obtain ⟨fm, how, hfr⟩ : ∃ fp, (Ty.sl .str).ow WT [vn] [[97]] fp ∧ FrI (w.heap.size + 1) WT.heap.size fp := by rw [hWT, hvn]; exact Row.ow (Row.litA b_20 b_17 (by rw [World.size_alloc]) b_20 b_20 b_17 b_12) b_12
  have hV2 : validName [[97]] = true := by decide
  obtain ⟨m, hm⟩ : ∃ m : List (List UInt8), m = [[97]] := ⟨_, rfl⟩
  have hp : 0 < m.length := by rw [hm]; decide
  rw [← hm] at how hV2
  rw [← hWT, ← hvn]
  have zT : w1.heap.size < WT.heap.size := HN.lt
  obtain ⟨An, cn, rfl, _, _, _⟩ := Ty.rd_sl (Ty.ow_rd how)
  clear hWT hvn hm HR
  clear hd1 hc1 hO1 hD1
  refine wp_region_noPanic ?_
  refine wp_region_held_drew (S := (fun W => W.cell? ⟨w1.heap.size, 0, none⟩ = some (.slice An m.length cn))) b_15 ?_ (fun hHeld => ?_)
  ·exact HN.c1
  refine tkz4 0 1 3 5 ?_
  try simp only [layz]
  refine rz1 2 (fun K hK => ?_)
  go_simp
  go_at_call 37
  refine (C_spec_l1Below _ B 9 b_6 b_17 b_17).mono ?_
  rintro e w4 ⟨hd4, hc4, x4, rfl, hx4, hy4⟩
  have z4 := hd4.size
  (try simp only [World.size_alloc, World.size_drew, size_drewN] at z4)
  have E4 : Dr B WT w4 := b_1
  have hO4 : Blk w4 w.heap.size 28 #[.slice none 0 0, .int .i64 0, .int .i64 0, .int .i64 0] := Dr.blk E4 HO b_18
  have hN4 : Blk w4 w1.heap.size 26 #[.slice An m.length cn] := Dr.blk E4 HN b_18
  refine hK.out _ _ (hN4.c1) (fun hHeld => ?_)
  clear hK K
  try simp only [layz]
  refine rz1 4 (fun K hK => ?_)
  go_simp
  go_at_call 37
  refine (C_spec_l1Below _ B 5 b_6 b_17 b_17).mono ?_
  rintro e w5 ⟨hd5, hc5, x5, rfl, hx5, hy5⟩
  have z5 := hd5.size
  (try simp only [World.size_alloc, World.size_drew, size_drewN] at z5)
  have E5 : Dr B WT w5 := b_1
  have hO5 : Blk w5 w.heap.size 28 #[.slice none 0 0, .int .i64 0, .int .i64 0, .int .i64 0] := Dr.blk E5 HO b_18
  have hN5 : Blk w5 w1.heap.size 26 #[.slice An m.length cn] := Dr.blk E5 HN b_18
  refine hK.out _ _ (hN5.c1) (fun hHeld => ?_)
  clear hK K
  try simp only [layz]
  refine rz1 6 (fun K hK => ?_)
  go_simp
  go_at_call 37
  refine (C_spec_l1Below _ B 6 b_6 b_17 b_17).mono ?_
  rintro e w6 ⟨hd6, hc6, x6, rfl, hx6, hy6⟩
  have z6 := hd6.size
  (try simp only [World.size_alloc, World.size_drew, size_drewN] at z6)
  have E6 : Dr B WT w6 := b_1
  have hO6 : Blk w6 w.heap.size 28 #[.slice none 0 0, .int .i64 0, .int .i64 0, .int .i64 0] := Dr.blk E6 HO b_18
  have hN6 : Blk w6 w1.heap.size 26 #[.slice An m.length cn] := Dr.blk E6 HN b_18
  refine hK.out _ _ (hN6.c1) (fun hHeld => ?_)
  clear hK K
  try simp only [layz]
  refine tkz2 7 8 ?_
  try simp only [layz]
  refine rz1 9 (fun K hK => ?_)
  obtain ⟨k0, k1, k2, k3, f0, f1, f2, f3, -⟩ := bk4 hO6
  go_simp
  have hq6 : IntKind.i64.wrap (1 + x6) = 1 + x6 := IntWalk.i64_in _ b_18
  rw [hq6]
  have hO7 := (((hO6.set_ 0 (.slice An m.length cn)).set_ 1 (.int .i64 x4)).set_ 2 (.int .i64 x5)).set_ 3 (.int .i64 (1 + x6))
  have D6 : Dr B w w6 := DT.trans E6
  have D7 := (((D6.set (p := ⟨w.heap.size, 0, none⟩) (.inr (Nat.le_refl _)) (.slice An m.length cn)).set (p := ⟨w.heap.size, 1, none⟩) (.inr (Nat.le_refl _)) (.int .i64 x4)).set (p := ⟨w.heap.size, 2, none⟩) (.inr (Nat.le_refl _)) (.int .i64 x5)).set (p := ⟨w.heap.size, 3, none⟩) (.inr (Nat.le_refl _)) (.int .i64 (1 + x6))
  have C7 := (((hc6.far (p := ⟨w.heap.size, 0, none⟩) hB (.slice An m.length cn)).far (p := ⟨w.heap.size, 1, none⟩) hB (.int .i64 x4)).far (p := ⟨w.heap.size, 2, none⟩) hB (.int .i64 x5)).far (p := ⟨w.heap.size, 3, none⟩) hB (.int .i64 (1 + x6))
  have how6 := owDr how hfr b_18 E6
  have how7 := owSet (owSet (owSet (owSet how6 hfr (p := ⟨w.heap.size, 0, none⟩) b_14 (.slice An m.length cn)) hfr (p := ⟨w.heap.size, 1, none⟩) b_14 (.int .i64 x4)) hfr (p := ⟨w.heap.size, 2, none⟩) b_14 (.int .i64 x5)) hfr (p := ⟨w.heap.size, 3, none⟩) b_14 (.int .i64 (1 + x6))
  have hNq := (((hN6.far (p := ⟨w.heap.size, 0, none⟩) b_14 (.slice An m.length cn)).far (p := ⟨w.heap.size, 1, none⟩) b_14 (.int .i64 x4)).far (p := ⟨w.heap.size, 2, none⟩) b_14 (.int .i64 x5)).far (p := ⟨w.heap.size, 3, none⟩) b_14 (.int .i64 (1 + x6))
  have z7 : WT.heap.size ≤ ((((w6.setCell ⟨w.heap.size, 0, none⟩ (.slice An m.length cn)).setCell ⟨w.heap.size, 1, none⟩ (.int .i64 x4)).setCell ⟨w.heap.size, 2, none⟩ (.int .i64 x5)).setCell ⟨w.heap.size, 3, none⟩ (.int .i64 (1 + x6))).heap.size := by simp only [World.size_setCell]; exact E6.size
  generalize ((((w6.setCell ⟨w.heap.size, 0, none⟩ (.slice An m.length cn)).setCell ⟨w.heap.size, 1, none⟩ (.int .i64 x4)).setCell ⟨w.heap.size, 2, none⟩ (.int .i64 x5)).setCell ⟨w.heap.size, 3, none⟩ (.int .i64 (1 + x6))) = w7 at hNq hO7 D7 C7 how7 z7 ⊢
  have hN7 : Blk w7 w1.heap.size 26 #[.slice An m.length cn] := hNq
  obtain ⟨j0, j1, j2, j3, -, -, -, -, -⟩ := bk4 hO7
  refine hK.out _ _ (hN7.c1) (fun hHeld => ?_)
  clear hK K
  try simp only [layz]
  refine wpAnyH_done b_15 ?_ _
  refine NoPanic.normal ?_
  go_wp2
  refine bodyPost_ret (v := .agg #[.slice An m.length cn, .int .i64 x4, .int .i64 x5, .int .i64 (1 + x6)]) (by simp [results, Tryd.results33, go_sem, j0, j1, j2, j3]) rfl ?_
  have b1 : -9223372036854775808 ≤ x4 ∧ x4 ≤ 9223372036854775807 := by omega
  have b2 : -9223372036854775808 ≤ x5 ∧ x5 ≤ 9223372036854775807 := by omega
  have b3 : -9223372036854775808 ≤ 1 + x6 ∧ 1 + x6 ≤ 9223372036854775807 := by omega
  have o1 : 0 ≤ x4 ∧ x4 ≤ 8 := by omega
  have o2 : 0 ≤ x5 ∧ x5 ≤ 4 := by omega
  have o3 : 1 ≤ 1 + x6 ∧ 1 + x6 ≤ 6 := by omega
  exact ⟨D7, C7, _, (m, x4, x5, 1 + x6), fm, rfl, ow_Interest_mkD (q := (m, x4, x5, 1 + x6)) how7 b1 b2 b3, hfr.mono b_18 z7, hV2, hp, o1, o2, o3⟩
 ·go_wp2_with fail
  obtain ⟨WT, hWT⟩ : ∃ WT, WT = (w1.alloc (Obj.cells #[Value.slice A n.length c] 26)) := ⟨_, rfl⟩
  obtain ⟨vn, hvn⟩ : ∃ vn, vn = Value.slice A n.length c := ⟨_, rfl⟩
  have CT : CurT WT B := by rw [hWT]; exact b_6
  have ET : Dr B w1 WT := by rw [hWT]; exact b_1
  have DT : Dr B w WT := hD1.trans ET
  have HO := Dr.blk ET hO1 b_18
  have HN : Blk WT w1.heap.size 26 #[vn] := by rw [hWT, hvn]; exact (Blk.new _ _ _)
  obtain ⟨fm, how, hfr⟩ : ∃ fp, (Ty.sl .str).ow WT [vn] n fp ∧ FrI (w.heap.size + 1) WT.heap.size fp := by rw [hWT, hvn]; exact Row.ow (HR.out.below b_3) b_12
  have hV2 := hV
  obtain ⟨m, hm⟩ : ∃ m : List (List UInt8), m = n := ⟨_, rfl⟩
  have hp : 0 < m.length := by rw [hm]; omega
  rw [← hm] at how hV2
  rw [← hWT, ← hvn]
  have zT : w1.heap.size < WT.heap.size := HN.lt
  obtain ⟨An, cn, rfl, _, _, _⟩ := Ty.rd_sl (Ty.ow_rd how)
  clear hWT hvn hm HR
  clear hd1 hc1 hO1 hD1
  refine wp_region_noPanic ?_
  refine wp_region_held_drew (S := (fun W => W.cell? ⟨w1.heap.size, 0, none⟩ = some (.slice An m.length cn))) b_15 ?_ (fun hHeld => ?_)
  ·exact HN.c1
  refine tkz4 0 1 3 5 ?_
  try simp only [layz]
  refine rz1 2 (fun K hK => ?_)
  go_simp
  go_at_call 37
  refine (C_spec_l1Below _ B 9 b_6 b_17 b_17).mono ?_
  rintro e w4 ⟨hd4, hc4, x4, rfl, hx4, hy4⟩
  have z4 := hd4.size
  (try simp only [World.size_alloc, World.size_drew, size_drewN] at z4)
  have E4 : Dr B WT w4 := b_1
  have hO4 : Blk w4 w.heap.size 28 #[.slice none 0 0, .int .i64 0, .int .i64 0, .int .i64 0] := Dr.blk E4 HO b_18
  have hN4 : Blk w4 w1.heap.size 26 #[.slice An m.length cn] := Dr.blk E4 HN b_18
  refine hK.out _ _ (hN4.c1) (fun hHeld => ?_)
  clear hK K
  try simp only [layz]
  refine rz1 4 (fun K hK => ?_)
  go_simp
  go_at_call 37
  refine (C_spec_l1Below _ B 5 b_6 b_17 b_17).mono ?_
  rintro e w5 ⟨hd5, hc5, x5, rfl, hx5, hy5⟩
  have z5 := hd5.size
  (try simp only [World.size_alloc, World.size_drew, size_drewN] at z5)
  have E5 : Dr B WT w5 := b_1
  have hO5 : Blk w5 w.heap.size 28 #[.slice none 0 0, .int .i64 0, .int .i64 0, .int .i64 0] := Dr.blk E5 HO b_18
  have hN5 : Blk w5 w1.heap.size 26 #[.slice An m.length cn] := Dr.blk E5 HN b_18
  refine hK.out _ _ (hN5.c1) (fun hHeld => ?_)
  clear hK K
  try simp only [layz]
  refine rz1 6 (fun K hK => ?_)
  go_simp
  go_at_call 37
  refine (C_spec_l1Below _ B 6 b_6 b_17 b_17).mono ?_
  rintro e w6 ⟨hd6, hc6, x6, rfl, hx6, hy6⟩
  have z6 := hd6.size
  (try simp only [World.size_alloc, World.size_drew, size_drewN] at z6)
  have E6 : Dr B WT w6 := b_1
  have hO6 : Blk w6 w.heap.size 28 #[.slice none 0 0, .int .i64 0, .int .i64 0, .int .i64 0] := Dr.blk E6 HO b_18
  have hN6 : Blk w6 w1.heap.size 26 #[.slice An m.length cn] := Dr.blk E6 HN b_18
  refine hK.out _ _ (hN6.c1) (fun hHeld => ?_)
  clear hK K
  try simp only [layz]
  refine tkz2 7 8 ?_
  try simp only [layz]
  refine rz1 9 (fun K hK => ?_)
  obtain ⟨k0, k1, k2, k3, f0, f1, f2, f3, -⟩ := bk4 hO6
  go_simp
  have hq6 : IntKind.i64.wrap (1 + x6) = 1 + x6 := IntWalk.i64_in _ b_18
  rw [hq6]
  have hO7 := (((hO6.set_ 0 (.slice An m.length cn)).set_ 1 (.int .i64 x4)).set_ 2 (.int .i64 x5)).set_ 3 (.int .i64 (1 + x6))
  have D6 : Dr B w w6 := DT.trans E6
  have D7 := (((D6.set (p := ⟨w.heap.size, 0, none⟩) (.inr (Nat.le_refl _)) (.slice An m.length cn)).set (p := ⟨w.heap.size, 1, none⟩) (.inr (Nat.le_refl _)) (.int .i64 x4)).set (p := ⟨w.heap.size, 2, none⟩) (.inr (Nat.le_refl _)) (.int .i64 x5)).set (p := ⟨w.heap.size, 3, none⟩) (.inr (Nat.le_refl _)) (.int .i64 (1 + x6))
  have C7 := (((hc6.far (p := ⟨w.heap.size, 0, none⟩) hB (.slice An m.length cn)).far (p := ⟨w.heap.size, 1, none⟩) hB (.int .i64 x4)).far (p := ⟨w.heap.size, 2, none⟩) hB (.int .i64 x5)).far (p := ⟨w.heap.size, 3, none⟩) hB (.int .i64 (1 + x6))
  have how6 := owDr how hfr b_18 E6
  have how7 := owSet (owSet (owSet (owSet how6 hfr (p := ⟨w.heap.size, 0, none⟩) b_14 (.slice An m.length cn)) hfr (p := ⟨w.heap.size, 1, none⟩) b_14 (.int .i64 x4)) hfr (p := ⟨w.heap.size, 2, none⟩) b_14 (.int .i64 x5)) hfr (p := ⟨w.heap.size, 3, none⟩) b_14 (.int .i64 (1 + x6))
  have hNq := (((hN6.far (p := ⟨w.heap.size, 0, none⟩) b_14 (.slice An m.length cn)).far (p := ⟨w.heap.size, 1, none⟩) b_14 (.int .i64 x4)).far (p := ⟨w.heap.size, 2, none⟩) b_14 (.int .i64 x5)).far (p := ⟨w.heap.size, 3, none⟩) b_14 (.int .i64 (1 + x6))
  have z7 : WT.heap.size ≤ ((((w6.setCell ⟨w.heap.size, 0, none⟩ (.slice An m.length cn)).setCell ⟨w.heap.size, 1, none⟩ (.int .i64 x4)).setCell ⟨w.heap.size, 2, none⟩ (.int .i64 x5)).setCell ⟨w.heap.size, 3, none⟩ (.int .i64 (1 + x6))).heap.size := by simp only [World.size_setCell]; exact E6.size
  generalize ((((w6.setCell ⟨w.heap.size, 0, none⟩ (.slice An m.length cn)).setCell ⟨w.heap.size, 1, none⟩ (.int .i64 x4)).setCell ⟨w.heap.size, 2, none⟩ (.int .i64 x5)).setCell ⟨w.heap.size, 3, none⟩ (.int .i64 (1 + x6))) = w7 at hNq hO7 D7 C7 how7 z7 ⊢
  have hN7 : Blk w7 w1.heap.size 26 #[.slice An m.length cn] := hNq
  obtain ⟨j0, j1, j2, j3, -, -, -, -, -⟩ := bk4 hO7
  refine hK.out _ _ (hN7.c1) (fun hHeld => ?_)
  clear hK K
  try simp only [layz]
  refine wpAnyH_done b_15 ?_ _
  refine NoPanic.normal ?_
  go_wp2
  refine bodyPost_ret (v := .agg #[.slice An m.length cn, .int .i64 x4, .int .i64 x5, .int .i64 (1 + x6)]) (by simp [results, Tryd.results33, go_sem, j0, j1, j2, j3]) rfl ?_
  have b1 : -9223372036854775808 ≤ x4 ∧ x4 ≤ 9223372036854775807 := by omega
  have b2 : -9223372036854775808 ≤ x5 ∧ x5 ≤ 9223372036854775807 := by omega
  have b3 : -9223372036854775808 ≤ 1 + x6 ∧ 1 + x6 ≤ 9223372036854775807 := by omega
  have o1 : 0 ≤ x4 ∧ x4 ≤ 8 := by omega
  have o2 : 0 ≤ x5 ∧ x5 ≤ 4 := by omega
  have o3 : 1 ≤ 1 + x6 ∧ 1 + x6 ≤ 6 := by omega
  exact ⟨D7, C7, _, (m, x4, x5, 1 + x6), fm, rfl, ow_Interest_mkD (q := (m, x4, x5, 1 + x6)) how7 b1 b2 b3, hfr.mono b_18 z7, hV2, hp, o1, o2, o3⟩
def f_EqualInterests (x y : tInterest.D) : Bool := decide (x.1 = y.1) && (decide (x.2.1 = y.2.1) && (decide (x.2.2.1 = y.2.2.1) && decide (x.2.2.2 = y.2.2.2)))
theorem eqWant_self (x : tInterest.D) : f_EqualInterests x x = true := by unfold f_EqualInterests; simp
theorem blk4w {w : World} {g : Nat} {t : TypeId} {a b c d : Value} (h : Blk w g t #[a, b, c, d]) : w.cell? ⟨g, 0, none⟩ = some a ∧ w.cell? ⟨g, 1, none⟩ = some b ∧ w.cell? ⟨g, 2, none⟩ = some c ∧ w.cell? ⟨g, 3, none⟩ = some d ∧
  w.frozen? ⟨g, 0, none⟩ = false ∧ w.frozen? ⟨g, 1, none⟩ = false ∧ w.frozen? ⟨g, 2, none⟩ = false ∧ w.frozen? ⟨g, 3, none⟩ = false := ⟨h.cell 0, h.cell 1, h.cell 2, h.cell 3, h.frozen 0, h.frozen 1, h.frozen 2, h.frozen 3⟩
theorem dec_no {a : Int} (h : a < 1) : decide (1 ≤ a) = false := decide_eq_false b_18
theorem dec_yes {a : Int} (h : ¬ a < 1) : decide (1 ≤ a) = true := decide_eq_true b_18
theorem dec_rng {a : Int} (h : -9223372036854775808 ≤ a ∧ a ≤ 9223372036854775807) (hl : ¬ a < 1) : -9223372036854775808 ≤ a - 1 ∧ a - 1 ≤ 9223372036854775807 := by omega
def f1_DecrementHops (x : tInterest.D) : Bool := decide (1 ≤ x.2.2.1)
def f0_DecrementHops (x : tInterest.D) : tInterest.D := (x.1, x.2.1, (if f1_DecrementHops x = true then x.2.2.1 - 1 else x.2.2.1), x.2.2.2)
set_option maxHeartbeats 1000000 in
theorem C_laws_sameWantG (w : World) (cs1 : List Value) (x : tInterest.D) (cs2 : List Value) (y : tInterest.D) (h1 : tInterest.rd w cs1 x) (h2 : tInterest.rd w cs2 y) :
  Calls Tryd.prog 20 #[.agg cs1.toArray, .agg cs2.toArray] w (RetB w (f_EqualInterests x y)) := by
 obtain ⟨A0, c0, rfl, g0, _, _, _⟩ := rd_Interest h1
 obtain ⟨B0, d0, rfl, k0, _, _, _⟩ := rd_Interest h2
 go_enter Tryd.func20, Tryd.ntmps20
 go_wp2_with fail
 refine (C_laws_sameNameG _ _ _ _ _ (Ty.rd_below b_3 g0) (Ty.rd_below b_3 k0)).mono ?_
 rintro e w1 ⟨rfl, hb1⟩
 have hw1 : Below w.heap.size w w1 := bel_trans b_3 hb1
 obtain ⟨hc1, hf1⟩ := bcell hb1
 have z10 : w.heap.size < w1.heap.size := by have := hb1.size; simp only [World.size_alloc] at this; omega
 have z11 : w.heap.size + 1 < w1.heap.size := by have := hb1.size; simp only [World.size_alloc] at this; omega
 cases hq0 : decide (x.1 = y.1)
 ·go_wp2
  go_ret
  exact ⟨ret_bool (by unfold f_EqualInterests; rw [hq0]; rfl), hw1⟩
 cases hq1 : (x.2.1 == y.2.1)
 ·go_wp2
  go_ret
  exact ⟨ret_bool (by unfold f_EqualInterests; rw [hq0, show decide (x.2.1 = y.2.1) = false from by simpa using hq1]; rfl), hw1⟩
 cases hq2 : (x.2.2.1 == y.2.2.1)
 ·go_wp2
  go_ret
  exact ⟨ret_bool (by unfold f_EqualInterests; rw [hq0, show decide (x.2.1 = y.2.1) = true from by simpa using hq1, show decide (x.2.2.1 = y.2.2.1) = false from by simpa using hq2]; rfl), hw1⟩
 go_wp2
 go_ret
 exact ⟨ret_bool (by unfold f_EqualInterests; rw [hq0, show decide (x.2.1 = y.2.1) = true from by simpa using hq1, show decide (x.2.2.1 = y.2.2.1) = true from by simpa using hq2]; (rw [Bool.eq_iff_iff]; simp)), hw1⟩
set_option maxHeartbeats 1000000 in
theorem C_impl_EqualInterests (w : World) (cs1 : List Value) (x : tInterest.D) (cs2 : List Value) (y : tInterest.D) (h1 : tInterest.rd w cs1 x) (h2 : tInterest.rd w cs2 y) :
  Calls Tryd.prog 24 #[.agg cs1.toArray, .agg cs2.toArray] w (RetB w (f_EqualInterests x y)) := by
 obtain ⟨A0, c0, rfl, g0, _, _, _⟩ := rd_Interest h1
 obtain ⟨B0, d0, rfl, k0, _, _, _⟩ := rd_Interest h2
 go_enter Tryd.func24, Tryd.ntmps24
 go_wp2_with fail
 refine (C_impl_EqualNames _ _ _ _ _ (Ty.rd_below b_3 g0) (Ty.rd_below b_3 k0)).mono ?_
 rintro e w1 ⟨rfl, hb1⟩
 have hw1 : Below w.heap.size w w1 := bel_trans b_3 hb1
 obtain ⟨hc1, hf1⟩ := bcell hb1
 have z10 : w.heap.size < w1.heap.size := by have := hb1.size; simp only [World.size_alloc] at this; omega
 have z11 : w.heap.size + 1 < w1.heap.size := by have := hb1.size; simp only [World.size_alloc] at this; omega
 cases hq0 : decide (x.1 = y.1)
 ·go_wp2
  go_ret
  exact ⟨ret_bool (by unfold f_EqualInterests; rw [hq0]; rfl), hw1⟩
 cases hq1 : (x.2.1 == y.2.1)
 ·go_wp2
  go_ret
  exact ⟨ret_bool (by unfold f_EqualInterests; rw [hq0, show decide (x.2.1 = y.2.1) = false from by simpa using hq1]; rfl), hw1⟩
 cases hq2 : (x.2.2.1 == y.2.2.1)
 ·go_wp2
  go_ret
  exact ⟨ret_bool (by unfold f_EqualInterests; rw [hq0, show decide (x.2.1 = y.2.1) = true from by simpa using hq1, show decide (x.2.2.1 = y.2.2.1) = false from by simpa using hq2]; rfl), hw1⟩
 go_wp2
 go_ret
 exact ⟨ret_bool (by unfold f_EqualInterests; rw [hq0, show decide (x.2.1 = y.2.1) = true from by simpa using hq1, show decide (x.2.2.1 = y.2.2.1) = true from by simpa using hq2]; (rw [Bool.eq_iff_iff]; simp)), hw1⟩
set_option maxHeartbeats 2000000 in
theorem C_spec_l7Copy (w : World) (cs : List Value) (x : tInterest.D) (h : tInterest.rd w cs x) (hx : x.1.length ≤ 1000000000000) :
  Calls Tryd.prog 47 #[.agg cs.toArray] w (RetAgg w tInterest x) := by
 obtain ⟨A0, c0, rfl, g0, i1, i2, i3⟩ := rd_Interest h
 obtain ⟨WX, hWX⟩ : ∃ V, V = (((w.alloc (.cells #[.slice A0 (List.length x.1) c0, .int .i64 x.2.1, .int .i64 x.2.2.1, .int .i64 x.2.2.2] 28)).alloc (.cells #[.slice none 0 0, .int .i64 0, .int .i64 0, .int .i64 0] 28)).alloc (.cells #[.slice A0 (List.length x.1) c0, .int .i64 x.2.1, .int .i64 x.2.2.1, .int .i64 x.2.2.2] 28)) := ⟨_, rfl⟩
 have hvb : Below w.heap.size w WX := by rw [hWX]; exact b_3
 have bP : Blk WX (w.heap.size) 28 #[.slice A0 (List.length x.1) c0, .int .i64 x.2.1, .int .i64 x.2.2.1, .int .i64 x.2.2.2] := by rw [hWX]; have := Blk.new w 28 #[.slice A0 (List.length x.1) c0, .int .i64 x.2.1, .int .i64 x.2.2.1, .int .i64 x.2.2.2]; (try simp only [World.size_alloc] at this); exact ((this).alloc _).alloc _
 have bZ : Blk WX (w.heap.size + 1) 28 #[.slice none 0 0, .int .i64 0, .int .i64 0, .int .i64 0] := by rw [hWX]; have := Blk.new (w.alloc (.cells #[.slice A0 (List.length x.1) c0, .int .i64 x.2.1, .int .i64 x.2.2.1, .int .i64 x.2.2.2] 28)) 28 #[.slice none 0 0, .int .i64 0, .int .i64 0, .int .i64 0]; (try simp only [World.size_alloc] at this); exact (this).alloc _
 have bT : Blk WX (w.heap.size + 1 + 1) 28 #[.slice A0 (List.length x.1) c0, .int .i64 x.2.1, .int .i64 x.2.2.1, .int .i64 x.2.2.2] := by rw [hWX]; have := Blk.new ((w.alloc (.cells #[.slice A0 (List.length x.1) c0, .int .i64 x.2.1, .int .i64 x.2.2.1, .int .i64 x.2.2.2] 28)).alloc (.cells #[.slice none 0 0, .int .i64 0, .int .i64 0, .int .i64 0] 28)) 28 #[.slice A0 (List.length x.1) c0, .int .i64 x.2.1, .int .i64 x.2.2.1, .int .i64 x.2.2.2]; (try simp only [World.size_alloc] at this); exact this
 have zX := bT.lt
 go_enter Tryd.func47, Tryd.ntmps47
 go_wp2_with fail
 rw [← hWX]
 clear hWX
 refine Calls.mono (C_spec_l4Copy _ _ x.1 (Ty.rd_below hvb g0) hx) ?_
 rintro e w1 ⟨cs1, fp1, rfl, how1, hfr1, hb1⟩
 obtain ⟨A1, c1, rfl⟩ := Ty.ow_slv how1
 have bP1 := bP.below hb1 bP.lt
 obtain ⟨Pk0, Pk_1, Pk2, Pk3, fbP0, fbP1, fbP2, fbP3⟩ := blk4w bP1
 have zbP := bP1.lt
 have bZ1 := bZ.below hb1 bZ.lt
 obtain ⟨Zk0, Zk_1, Zk2, Zk3, fbZ0, fbZ1, fbZ2, fbZ3⟩ := blk4w bZ1
 have zbZ := bZ1.lt
 have bT1 := bT.below hb1 bT.lt
 obtain ⟨Tk0, Tk_1, Tk2, Tk3, fbT0, fbT1, fbT2, fbT3⟩ := blk4w bT1
 have zbT := bT1.lt
 have hw1 := bel_trans hvb hb1
 have zz := hb1.size
 go_wp2
 refine bodyPost_ret (v := .agg #[.slice A1 (List.length x.1) c1, .int .i64 x.2.1, .int .i64 x.2.2.1, .int .i64 x.2.2.2]) (by simp [results, Tryd.results47, go_sem, Pk0, Pk_1, Pk2, Pk3, fbP0, fbP1, fbP2, fbP3, zbP, Zk0, Zk_1, Zk2, Zk3, fbZ0, fbZ1, fbZ2, fbZ3, zbZ, Tk0, Tk_1, Tk2, Tk3, fbT0, fbT1, fbT2, fbT3, zbT]) rfl ?_
 exact ⟨_, fp1, rfl, ow_Interest_mkD (Ty.ow_keep b_2 how1) i1 i2 i3, hfr1.mono b_18 (by (try simp only [World.size_setCell]); omega), b_0⟩
set_option maxHeartbeats 2000000 in
theorem C_impl_copyInterest (w : World) (cs : List Value) (x : tInterest.D) (h : tInterest.rd w cs x) (hx : x.1.length ≤ 1000000000000) :
  Calls Tryd.prog 48 #[.agg cs.toArray] w (RetAgg w tInterest x) := by
 obtain ⟨A0, c0, rfl, g0, i1, i2, i3⟩ := rd_Interest h
 obtain ⟨WX, hWX⟩ : ∃ V, V = ((w.alloc (.cells #[.slice A0 (List.length x.1) c0, .int .i64 x.2.1, .int .i64 x.2.2.1, .int .i64 x.2.2.2] 28)).alloc (.cells #[.slice none 0 0, .int .i64 0, .int .i64 0, .int .i64 0] 28)) := ⟨_, rfl⟩
 have hvb : Below w.heap.size w WX := by rw [hWX]; exact b_3
 have bP : Blk WX (w.heap.size) 28 #[.slice A0 (List.length x.1) c0, .int .i64 x.2.1, .int .i64 x.2.2.1, .int .i64 x.2.2.2] := by rw [hWX]; have := Blk.new w 28 #[.slice A0 (List.length x.1) c0, .int .i64 x.2.1, .int .i64 x.2.2.1, .int .i64 x.2.2.2]; (try simp only [World.size_alloc] at this); exact (this).alloc _
 have bZ : Blk WX (w.heap.size + 1) 28 #[.slice none 0 0, .int .i64 0, .int .i64 0, .int .i64 0] := by rw [hWX]; have := Blk.new (w.alloc (.cells #[.slice A0 (List.length x.1) c0, .int .i64 x.2.1, .int .i64 x.2.2.1, .int .i64 x.2.2.2] 28)) 28 #[.slice none 0 0, .int .i64 0, .int .i64 0, .int .i64 0]; (try simp only [World.size_alloc] at this); exact this
 have zX := bZ.lt
 go_enter Tryd.func48, Tryd.ntmps48
 go_wp2_with fail
 rw [← hWX]
 clear hWX
 refine Calls.mono (C_impl_copyName _ _ x.1 (Ty.rd_below hvb g0) hx) ?_
 rintro e w1 ⟨cs1, fp1, rfl, how1, hfr1, hb1⟩
 obtain ⟨A1, c1, rfl⟩ := Ty.ow_slv how1
 have bP1 := bP.below hb1 bP.lt
 obtain ⟨Pk0, Pk_1, Pk2, Pk3, fbP0, fbP1, fbP2, fbP3⟩ := blk4w bP1
 have zbP := bP1.lt
 have bZ1 := bZ.below hb1 bZ.lt
 obtain ⟨Zk0, Zk_1, Zk2, Zk3, fbZ0, fbZ1, fbZ2, fbZ3⟩ := blk4w bZ1
 have zbZ := bZ1.lt
 have hw1 := bel_trans hvb hb1
 have zz := hb1.size
 go_wp2
 refine bodyPost_ret (v := .agg #[.slice A1 (List.length x.1) c1, .int .i64 x.2.1, .int .i64 x.2.2.1, .int .i64 x.2.2.2]) (by simp [results, Tryd.results48, go_sem, Pk0, Pk_1, Pk2, Pk3, fbP0, fbP1, fbP2, fbP3, zbP, Zk0, Zk_1, Zk2, Zk3, fbZ0, fbZ1, fbZ2, fbZ3, zbZ]) rfl ?_
 exact ⟨_, fp1, rfl, ow_Interest_mkD (Ty.ow_keep b_2 how1) i1 i2 i3, hfr1.mono b_18 (by (try simp only [World.size_setCell]); omega), b_0⟩
set_option maxHeartbeats 2000000 in
theorem C_impl_DecrementHops (w : World) (cs : List Value) (x : tInterest.D) (h : tInterest.rd w cs x) (hx : x.1.length ≤ 1000000000000) :
  Calls Tryd.prog 16 #[.agg cs.toArray] w (RetAgg2 w tInterest (f0_DecrementHops x) (.bool (f1_DecrementHops x))) := by
 obtain ⟨A0, c0, rfl, g0, i1, i2, i3⟩ := rd_Interest h
 obtain ⟨WX, hWX⟩ : ∃ V, V = ((w.alloc (.cells #[.slice A0 (List.length x.1) c0, .int .i64 x.2.1, .int .i64 x.2.2.1, .int .i64 x.2.2.2] 28)).alloc (.cells #[.slice none 0 0, .int .i64 0, .int .i64 0, .int .i64 0] 28)) := ⟨_, rfl⟩
 have hvb : Below w.heap.size w WX := by rw [hWX]; exact b_3
 have bP : Blk WX (w.heap.size) 28 #[.slice A0 (List.length x.1) c0, .int .i64 x.2.1, .int .i64 x.2.2.1, .int .i64 x.2.2.2] := by rw [hWX]; have := Blk.new w 28 #[.slice A0 (List.length x.1) c0, .int .i64 x.2.1, .int .i64 x.2.2.1, .int .i64 x.2.2.2]; (try simp only [World.size_alloc] at this); exact (this).alloc _
 have bZ : Blk WX (w.heap.size + 1) 28 #[.slice none 0 0, .int .i64 0, .int .i64 0, .int .i64 0] := by rw [hWX]; have := Blk.new (w.alloc (.cells #[.slice A0 (List.length x.1) c0, .int .i64 x.2.1, .int .i64 x.2.2.1, .int .i64 x.2.2.2] 28)) 28 #[.slice none 0 0, .int .i64 0, .int .i64 0, .int .i64 0]; (try simp only [World.size_alloc] at this); exact this
 have zX := bZ.lt
 go_enter Tryd.func16, Tryd.ntmps16
 go_wp2_with fail
 rw [← hWX]
 clear hWX
 refine Calls.mono (C_impl_copyInterest _ _ x (Ty.rd_below hvb h) hx) ?_
 rintro e w1 ⟨cs1, fp1, rfl, how1, hfr1, hb1⟩
 obtain ⟨A1, c1, rfl⟩ := ow_Interest how1
 obtain ⟨v1, v2, f1, f2, hv, hf, hn, hr⟩ := how1
 obtain ⟨s1, rfl⟩ : ∃ a, v1 = [a] := List.length_eq_one_iff.1 (Ty.ow_len hn)
 simp only [List.singleton_append, List.cons.injEq] at hv
 obtain ⟨rfl, hv2⟩ := hv
 have hf2 : f2 = [] := by
  obtain ⟨_, _, a1, a2, _, q1, ⟨_, q2⟩, _, _, a3, a4, _, q3, ⟨_, q4⟩, ⟨_, q5⟩⟩ := hr
  rw [q1, q2, q3, q4, q5]; rfl
 have hfp : fp1 = f1 := by rw [hf, hf2, List.append_nil]
 subst hfp
 clear hv2 hf2 hf hr
 have bP1 := bP.below hb1 bP.lt
 have bZ1 := bZ.below hb1 bZ.lt
 obtain ⟨p0, p1, p2, p3, -⟩ := blk4w bP1
 obtain ⟨q0, q1, q2, q3, r0, r1, r2, r3⟩ := blk4w bZ1
 have zP := bP1.lt
 have zZ := bZ1.lt
 have hw1 := bel_trans hvb hb1
 have zz := hb1.size
 by_cases hl : x.2.2.1 < 1
 ·have hF1 : f1_DecrementHops x = false := dec_no hl
  have hF0 : f0_DecrementHops x = x := by unfold f0_DecrementHops; rw [hF1]; rfl
  have HF0 := Lib.hid hF0
  have HF1 := Lib.hid hF1
  clear hF0 hF1
  go_wp2
  refine bodyPost_ret (v := .tuple #[.agg #[.slice A1 (List.length x.1) c1, .int .i64 x.2.1, .int .i64 x.2.2.1, .int .i64 x.2.2.2], .bool false]) (by simp [results, Tryd.results16, go_sem, q0, q1, q2, q3, r0, r1, r2, r3, zZ]) rfl ?_
  rw [HF0.out, HF1.out]
  exact ⟨_, fp1, rfl, ow_Interest_mkD (Ty.ow_keep b_2 hn) i1 i2 i3, hfr1.mono b_18 (by (try simp only [World.size_setCell, World.size_alloc]); omega), b_0⟩
 ·have hF1 : f1_DecrementHops x = true := dec_yes hl
  have hF0 : f0_DecrementHops x = (x.1, x.2.1, x.2.2.1 - 1, x.2.2.2) := by unfold f0_DecrementHops; rw [hF1]; rfl
  have HF0 := Lib.hid hF0
  have HF1 := Lib.hid hF1
  have hwr : IntKind.i64.wrap (x.2.2.1 - 1) = x.2.2.1 - 1 := IntWalk.i64_in _ (dec_rng i2 hl)
  have j2 := dec_rng i2 hl
  clear hF0 hF1
  go_wp2
  refine bodyPost_ret (v := .tuple #[.agg #[.slice A1 (List.length x.1) c1, .int .i64 x.2.1, .int .i64 (x.2.2.1 - 1), .int .i64 x.2.2.2], .bool true]) (by simp [results, Tryd.results16, go_sem, q0, q1, q2, q3, r0, r1, r2, r3, zZ]) rfl ?_
  rw [HF0.out, HF1.out]
  exact ⟨_, fp1, rfl, ow_Interest_mkD (q := (x.1, x.2.1, x.2.2.1 - 1, x.2.2.2)) (Ty.ow_keep b_2 hn) i1 j2 i3, hfr1.mono b_18 (by (try simp only [World.size_setCell, World.size_alloc]); omega), b_0⟩
set_option maxHeartbeats 2000000 in
theorem C_spec_DecrementHops (w : World) (cs : List Value) (x : tInterest.D) (h : tInterest.rd w cs x) (hx : x.1.length ≤ 1000000000000) :
  Calls Tryd.prog 17 #[.agg cs.toArray] w (RetAgg2 w tInterest (f0_DecrementHops x) (.bool (f1_DecrementHops x))) := by
 obtain ⟨A0, c0, rfl, g0, i1, i2, i3⟩ := rd_Interest h
 obtain ⟨WX, hWX⟩ : ∃ V, V = ((w.alloc (.cells #[.slice A0 (List.length x.1) c0, .int .i64 x.2.1, .int .i64 x.2.2.1, .int .i64 x.2.2.2] 28)).alloc (.cells #[.slice none 0 0, .int .i64 0, .int .i64 0, .int .i64 0] 28)) := ⟨_, rfl⟩
 have hvb : Below w.heap.size w WX := by rw [hWX]; exact b_3
 have bP : Blk WX (w.heap.size) 28 #[.slice A0 (List.length x.1) c0, .int .i64 x.2.1, .int .i64 x.2.2.1, .int .i64 x.2.2.2] := by rw [hWX]; have := Blk.new w 28 #[.slice A0 (List.length x.1) c0, .int .i64 x.2.1, .int .i64 x.2.2.1, .int .i64 x.2.2.2]; (try simp only [World.size_alloc] at this); exact (this).alloc _
 have bZ : Blk WX (w.heap.size + 1) 28 #[.slice none 0 0, .int .i64 0, .int .i64 0, .int .i64 0] := by rw [hWX]; have := Blk.new (w.alloc (.cells #[.slice A0 (List.length x.1) c0, .int .i64 x.2.1, .int .i64 x.2.2.1, .int .i64 x.2.2.2] 28)) 28 #[.slice none 0 0, .int .i64 0, .int .i64 0, .int .i64 0]; (try simp only [World.size_alloc] at this); exact this
 have zX := bZ.lt
 go_enter Tryd.func17, Tryd.ntmps17
 go_wp2_with fail
 rw [← hWX]
 clear hWX
 refine Calls.mono (C_spec_l7Copy _ _ x (Ty.rd_below hvb h) hx) ?_
 rintro e w1 ⟨cs1, fp1, rfl, how1, hfr1, hb1⟩
 obtain ⟨A1, c1, rfl⟩ := ow_Interest how1
 obtain ⟨v1, v2, f1, f2, hv, hf, hn, hr⟩ := how1
 obtain ⟨s1, rfl⟩ : ∃ a, v1 = [a] := List.length_eq_one_iff.1 (Ty.ow_len hn)
 simp only [List.singleton_append, List.cons.injEq] at hv
 obtain ⟨rfl, hv2⟩ := hv
 have hf2 : f2 = [] := by
  obtain ⟨_, _, a1, a2, _, q1, ⟨_, q2⟩, _, _, a3, a4, _, q3, ⟨_, q4⟩, ⟨_, q5⟩⟩ := hr
  rw [q1, q2, q3, q4, q5]; rfl
 have hfp : fp1 = f1 := by rw [hf, hf2, List.append_nil]
 subst hfp
 clear hv2 hf2 hf hr
 have bP1 := bP.below hb1 bP.lt
 have bZ1 := bZ.below hb1 bZ.lt
 obtain ⟨p0, p1, p2, p3, -⟩ := blk4w bP1
 obtain ⟨q0, q1, q2, q3, r0, r1, r2, r3⟩ := blk4w bZ1
 have zP := bP1.lt
 have zZ := bZ1.lt
 have hw1 := bel_trans hvb hb1
 have zz := hb1.size
 by_cases hl : x.2.2.1 < 1
 ·have hF1 : f1_DecrementHops x = false := dec_no hl
  have hF0 : f0_DecrementHops x = x := by unfold f0_DecrementHops; rw [hF1]; rfl
  have HF0 := Lib.hid hF0
  have HF1 := Lib.hid hF1
  clear hF0 hF1
  go_wp2
  refine bodyPost_ret (v := .tuple #[.agg #[.slice A1 (List.length x.1) c1, .int .i64 x.2.1, .int .i64 x.2.2.1, .int .i64 x.2.2.2], .bool false]) (by simp [results, Tryd.results17, go_sem, q0, q1, q2, q3, r0, r1, r2, r3, zZ]) rfl ?_
  rw [HF0.out, HF1.out]
  exact ⟨_, fp1, rfl, ow_Interest_mkD (Ty.ow_keep b_2 hn) i1 i2 i3, hfr1.mono b_18 (by (try simp only [World.size_setCell, World.size_alloc]); omega), b_0⟩
 ·have hF1 : f1_DecrementHops x = true := dec_yes hl
  have hF0 : f0_DecrementHops x = (x.1, x.2.1, x.2.2.1 - 1, x.2.2.2) := by unfold f0_DecrementHops; rw [hF1]; rfl
  have HF0 := Lib.hid hF0
  have HF1 := Lib.hid hF1
  have hwr : IntKind.i64.wrap (x.2.2.1 - 1) = x.2.2.1 - 1 := IntWalk.i64_in _ (dec_rng i2 hl)
  have j2 := dec_rng i2 hl
  clear hF0 hF1
  go_wp2
  refine bodyPost_ret (v := .tuple #[.agg #[.slice A1 (List.length x.1) c1, .int .i64 x.2.1, .int .i64 (x.2.2.1 - 1), .int .i64 x.2.2.2], .bool true]) (by simp [results, Tryd.results17, go_sem, q0, q1, q2, q3, r0, r1, r2, r3, zZ]) rfl ?_
  rw [HF0.out, HF1.out]
  exact ⟨_, fp1, rfl, ow_Interest_mkD (q := (x.1, x.2.1, x.2.2.1 - 1, x.2.2.2)) (Ty.ow_keep b_2 hn) i1 j2 i3, hfr1.mono b_18 (by (try simp only [World.size_setCell, World.size_alloc]); omega), b_0⟩
def SrcF (e : Ty) (w : World) (u : Value) (y : List e.D) (fp : List Nat) : Prop :=
 ∃ A c fs, u = .slice A y.length c ∧ fp = (List.range y.length).flatMap fs ∧
  (0 < y.length → ∃ b o, A = some ⟨b, o, none⟩ ∧ ∀ i (h : i < y.length), ∃ ds : List Value, ds.length = e.sz ∧ (∀ j, j < e.sz → w.cell? ⟨b, o + i * e.sz + j, none⟩ = ds[j]?) ∧ e.ow w ds y[i] (fs i))
theorem SrcF.lit {e : Ty} {w : World} {c g : Nat} (te : TypeId) {ds : List Value} {d : e.D} {f : List Nat} (how : e.ow w ds d f) (hg : g = w.heap.size) :
  SrcF e (w.alloc (.cells ds.toArray te)) (.slice (some ⟨g, 0, none⟩) 1 c) [d] f := by
 subst hg
 refine ⟨_, c, fun _ => f, rfl, by simp, fun _ => ⟨_, _, rfl, fun i hi => ?_⟩⟩
 obtain rfl : i = 0 := by simpa using hi
 exact ⟨ds, Ty.ow_len how, fun j hj => by rw [Nat.zero_mul, Nat.add_zero, Nat.zero_add]; exact (cell_new w te ds.toArray j rfl).trans b_19, Ty.ow_bel ((Below.refl _ _).alloc (Nat.le_refl _) _) how⟩
def DRowF (e : Ty) (w : World) (base : Nat) (te : TypeId) (v : Value) (x : List e.D) (fp : List Nat) : Prop :=
 ∃ (css : Nat → List Value) (fs : Nat → List Nat), w.ownsRow base te e.sz v x.length ((List.range x.length).flatMap css) ∧
  (∀ i (h : i < x.length), (css i).length = e.sz ∧ e.ow w (css i) x[i] (fs i)) ∧
  fp = (List.range x.length).flatMap fs ∧ (∀ g, v.ownBlock = some g → g ∉ fp)
theorem DRowF.lit0 (e : Ty) (w : World) (te : TypeId) {base : Nat} (hb : base ≤ w.heap.size) : DRowF e (w.alloc (.cells #[] te)) base te (.slice (some ⟨w.heap.size, 0, none⟩) 0 0) [] [] :=
 ⟨fun _ => [], fun _ => [], World.ownsRow_lit w #[] 0 hb (by unfold maxLen; omega) b_19, fun i h => absurd h b_19, rfl, fun g h => by simp⟩
section
variable {e : Ty} {w w' : World} {base : Nat} {te : TypeId} {v : Value} {x : List e.D} {fp : List Nat}
theorem DRowF.block (h : DRowF e w base te v x fp) : ∀ g, v.ownBlock = some g → base ≤ g ∧ g < w.heap.size := by
 obtain ⟨css, fs, h, _⟩ := h
 exact h.lt
theorem DRowF.keep (h : DRowF e w base te v x fp) (hsz : w.heap.size ≤ w'.heap.size) (hk : ∀ b, b ∈ fp → w'.heap[b]? = w.heap[b]?) (ho : ∀ g, v.ownBlock = some g → w'.heap[g]? = w.heap[g]?) : DRowF e w' base te v x fp := by
 obtain ⟨css, fs, h1, h2, h3, h4⟩ := h
 refine ⟨css, fs, ⟨h1.1, ?_⟩, fun i hi => ⟨(h2 i hi).1, Ty.ow_keep (fun b hb' => hk b ?_) (h2 i hi).2⟩, h3, h4⟩
 ·rcases h1.2 with hn | ⟨g, cap, cur, rfl, hbg, hgg, rest⟩
  ·exact .inl hn
  ·exact .inr ⟨g, cap, cur, rfl, hbg, (ho g rfl).trans hgg, rest⟩
 ·rw [h3]; exact List.mem_flatMap.2 ⟨i, List.mem_range.2 hi, hb'⟩
theorem DRowF.mem_lt (h : DRowF e w base te v x fp) : ∀ b ∈ fp, b < w.heap.size := by
 obtain ⟨css, fs, h1, h2, h3, h4⟩ := h
 intro b hb
 rw [h3] at hb
 obtain ⟨i, hi, hb⟩ := List.mem_flatMap.1 hb
 exact Ty.ow_lt (h2 i (List.mem_range.1 hi)).2 b hb
theorem DRowF.below (h : DRowF e w base te v x fp) (hb : Below w.heap.size w w') : DRowF e w' base te v x fp :=
 h.keep hb.size (fun b hm => hb.block b (h.mem_lt b hm)) (fun g hg => hb.block g (h.block g hg).2)
end
end Go.Proofs.YtidnahocnhcoiaaDoor
