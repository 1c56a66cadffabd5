/- Texts of this claim, merged by a program: Ar3 Pdr. -/
import Derived.Test.YtidnahocnhcoiaaGreatDoorQrP
import Derived.Test.YtidnahocnhcoiaaGreatDoorQr3
import Derived.Deep.RegionHeld3
namespace Go.Proofs.YtidnahocnhcoiaaGreatDoor
open Go.RowKit
set_option linter.unusedVariables false
set_option linter.unusedSimpArgs false
theorem GRow.at {e : Ty} {lo : Nat} {ex : List Nat} {w : World} {te : TypeId} {A : Option Addr} {n c : Nat} {x : List e.D} (h : GRow e lo ex w te (.slice A n c) x) {k : Nat} (hk : k < x.length) :
  ∃ g ds, A = some ⟨g, 0, none⟩ ∧ ds.length = e.sz ∧ (∀ j, j < e.sz → w.cell? ⟨g, k * e.sz + j, none⟩ = ds[j]?) ∧ (∀ i, w.frozen? ⟨g, i, none⟩ = false) ∧ (lo ≤ g ∧ g < w.heap.size ∧ g ∉ ex) ∧ e.rd w ds x[k] ∧
   (∀ (W : World) (te' : TypeId) (g' c' : Nat), Below w.heap.size w W → Blk W g' te' ds.toArray → ASrc e lo ex W (.slice A n c) (.slice (some ⟨g', 0, none⟩) 1 c') [x[k]]) := by
 have hbl := h.block
 obtain ⟨P, css, h0, h1, h2, h3⟩ := h
 have h1' := h1
 rcases h1.2 with ⟨hv, hn⟩ | ⟨g, cap, cur, hv, hbg, hg, hnc, hcm, hcs, htake⟩
 ·omega
 ·simp only [Value.slice.injEq] at hv
  obtain ⟨rfl, rfl, rfl⟩ := hv
  refine ⟨g, css k, rfl, (h2 k hk).1, fun j hj => ?_, fun i => Blk.frozen (t := te) (cs := cur) hg _, hbl g rfl, (h2 k hk).2 w (fun _ _ => rfl), fun W te' g' c' hb hB => ?_⟩
  ·have h5 : (k + 1) * e.sz ≤ x.length * e.sz := Nat.mul_le_mul_right _ hk
   rw [Nat.succ_mul] at h5
   rw [h1'.cellAt (k * e.sz + j) b_22]
   exact fmr_get css e.sz x.length (fun i hi => (h2 i hi).1) k j hk hj
  ·refine ⟨_, c', P, rfl, fun b hb' => ⟨(h0 b hb').1, Nat.lt_of_lt_of_le (h0 b hb').2.1 hb.size, (h0 b hb').2.2, fun e => (h3 b e).1 hb'⟩, fun _ => ⟨g', 0, rfl, fun i hi => ?_⟩⟩
   obtain rfl : i = 0 := by simpa using hi
   exact ⟨css k, (h2 k hk).1, fun j hj => by rw [Nat.zero_mul, Nat.add_zero, Nat.zero_add]; exact (hB.cell j).trans b_23, fun W' hW' => (h2 k hk).2 W' (fun b hb' => (hW' b hb').trans (hb.block b (h0 b hb').2.1))⟩
theorem pat8 {s : List UInt8} (h : s ∈ [[97], [98], [110, 101, 119, 115], [42], [63, 120], [63, 121], [63, 120], [107, 101, 121]]) : s.length ≤ 9 := by
 simp at h; rcases h with rfl | rfl | rfl | rfl | rfl | rfl | rfl | rfl <;> decide
theorem pat6 {s : List UInt8} (h : s ∈ [[], [63], [63, 120, 120], [63, 65], [65], [42, 42, 42]]) : s.length ≤ 9 := by
 simp at h; rcases h with rfl | rfl | rfl | rfl | rfl | rfl <;> decide
theorem okAny.cons {n : List (List UInt8)} (h : okAny n) (hl : n.length ≤ 6) {s : List UInt8} (hs : s.length ≤ 9) : okAny ([s] ++ n) := by
 refine ⟨by simp; omega, fun p hp => ?_⟩
 rcases List.mem_append.1 hp with hp | hp
 ·simp at hp; subst hp; exact hs
 ·exact h.2 p hp
set_option maxRecDepth 100000 in
set_option maxHeartbeats 4000000 in
theorem C_spec_l5Pat (w : World) (B : Nat) (hc : CurT w B) :
  Calls Tryz.prog 74 #[pB B] w (RetDT B w (fun e w' => ∃ A n c, e = .returned (.agg #[.slice A (List.length n) c]) ∧ GRow .str w.heap.size [] w' 9 (.slice A (List.length n) c) n ∧ okAny n ∧ n.length ≤ 4)) := by
 have hB := hc.lt
 go_enter Tryz.func74, Tryz.ntmps74
 go_wp2_with fail
 refine Calls.mono (C_spec_l1Below _ B 4 b_4 b_21 b_21) ?_
 rintro e w1 ⟨hd1, hc1, x, rfl, hx0, hx1⟩
 have hO1 : Blk w1 w.heap.size 26 #[.slice none 0 0] := Dr.blk hd1 ((Blk.new w _ _).alloc _) b_22
 have hN1 : Blk w1 (w.heap.size + 1) 26 #[.slice none 0 0] := Dr.blk hd1 (by have := Blk.new (w.alloc (.cells #[.slice none 0 0] 26)) 26 #[.slice none 0 0]; rwa [World.size_alloc] at this) b_22
 have hD1 : Dr B w w1 := b_1
 have z1 := hd1.size
 simp only [World.size_alloc] at z1
 clear hd1
 go_wp2
 go_loopw [4] (fun i wr => ∃ (k : Int) (A : Option Addr) (c : Nat) (n : List (List UInt8)), i = .int .i64 k ∧ k ≤ 3 ∧ 0 ≤ k ∧ (n.length : Int) ≤ 3 - k ∧ CurT wr B ∧ Dr B w wr ∧ Blk wr w.heap.size 26 #[.slice none 0 0] ∧ Blk wr (w.heap.size + 1) 26 #[.slice A (List.length n) c] ∧ GRow .str (w.heap.size + 1 + 1) [] wr 9 (.slice A (List.length n) c) n ∧ okAny n) (fun i _ => (intOf i).toNat)
 case atStart => exact ⟨x, none, 0, [], rfl, by omega, by omega, (show (0 : Int) ≤ 3 - x by omega), hc1, hD1, hO1, hN1, GRow.nil _ _ _ _ _, ⟨by decide, fun p hp => by cases hp⟩⟩
 case round =>
  obtain ⟨k, A, c, n, rfl, hk3, hk0, hnl, hcr, hdr, hOr, hNr, hGr, hAr⟩ := hrel
  have HGr := Lib.hid hGr
  have hA := Lib.hid hAr
  have zr := hdr.size
  have znr := hNr.lt
  have kN : wr.cell? ⟨w.heap.size + 1, 0, none⟩ = some (.slice A n.length c) := hNr.c1
  have fN : wr.frozen? ⟨w.heap.size + 1, 0, none⟩ = false := hNr.f1
  clear hGr hAr hO1 hN1 hD1 hc1
  by_cases hlt : 0 < k
  ·go_wp2_with fail
   refine wp_region_noPanic ?_
   refine wp_region_held_drew (S := (fun _ => True)) b_20 ?_ (fun hHeld => ?_)
   ·trivial
   refine tkz2 0 2 ?_
   try simp only [layz]
   refine rz2 1 3 (fun K hK => ?_) (fun K hK => ?_)
   ·go_simp
    refine hK.out _ _ ?_ (fun hHeld => ?_)
    ·(try dsimp only)
     try trivial
    clear hK K
    try simp only [layz]
    refine rz1 3 (fun K hK => ?_)
    go_simp
    refine hK.out _ _ ?_ (fun hHeld => ?_)
    ·(try dsimp only)
     try trivial
    clear hK K
    try simp only [layz]
    refine rz1 4 (fun K hK => ?_)
    go_simp
    go_at_call 31
    refine Calls.mono (C_spec_l1Str _ B _ [[97], [98], [110, 101, 119, 115], [42], [63, 120], [63, 121], [63, 120], [107, 101, 121]] b_4 b_3 b_21 b_21) ?_
    rintro e w3 ⟨hd3, hc3, s, hs, rfl⟩
    have z3 := hd3.size
    (try simp only [World.size_alloc, World.size_drew, size_drewN] at z3)
    have hs9 := pat8 hs
    have hsl : s.length ≤ 9223372036854775807 := by omega
    have E3 : Dr B wr w3 := b_1
    have HG3 := Lib.hid (HGr.out.dr E3 b_22)
    have hO3 := Dr.blk E3 hOr b_22
    have hN3 := Dr.blk E3 hNr b_22
    have kN3 := hN3.c1
    have zN3 := hN3.lt
    have D3 : Dr B w w3 := hdr.trans E3
    clear hs hd3
    refine hK.out _ _ ?_ (fun hHeld => ?_)
    ·(try dsimp only)
     try trivial
    clear hK K
    try simp only [layz]
    refine rz1 5 (fun K hK => ?_)
    go_simp
    refine hK.out _ _ ?_ (fun hHeld => ?_)
    ·(try dsimp only)
     try trivial
    clear hK K
    try simp only [layz]
    refine rz1 6 (fun K hK => ?_)
    refine step_append_grow (e := .str) b_24 _ _ 24 b_24 (w.heap.size + 1 + 1) [] 9 info_str rfl Tryz.underlying24 (.slice A n.length c) _ n [s] b_24 b_24 b_7 (ASrc.flat rfl b_6) ?_ ?_ ?_ ?_ ?_
    ·intro q hq; simp at hq
    ·simp only [List.length_singleton]; omega
    ·simp only [List.length_singleton]; unfold maxLen; omega
    ·exact b_16
    intro v' w' hr' hg'
    have hbl := HG3.out.block
    have hrow : ∀ q, (Value.slice A n.length c).ownBlock = some q → w.heap.size + 1 + 1 ≤ q ∧ q ≠ w.heap.size + 1 := fun q hq => ⟨(hbl q hq).1, fun e => by have := (hbl q hq).1; omega⟩
    have zg := hg'.size
    (try simp only [World.size_alloc, size_drewN, World.size_drew] at zg)
    have hO4 : Blk w' w.heap.size 26 #[.slice none 0 0] := Blk.grown b_8 hg' (fun e => by have := hrow _ e.symm; omega)
    have hN4 : Blk w' (w.heap.size + 1) 26 #[.slice A n.length c] := Blk.grown b_8 hg' (fun e => (hrow _ e.symm).2 rfl)
    have D4 : Dr B w w' := Dr.grown b_1 hg' (fun q hq => by have := hrow q hq; omega)
    have C4 : CurT w' B := Cur.grown b_4 hg' (fun q hq => by have := hrow q hq; omega)
    have hA' := Lib.hid (okAny.app hA.out b_22 hs9)
    obtain ⟨n', hn'⟩ : ∃ n', n' = n ++ [s] := ⟨_, rfl⟩
    rw [← hn'] at hr' hA'
    have hl' := Lib.hid (show n'.length = n.length + 1 by rw [hn', List.length_append, List.length_singleton])
    clear hn'
    obtain ⟨A', c', rfl⟩ := hr'.form
    have HR' := Lib.hid hr'
    clear hr' hg' hbl hrow
    have fN4 : w'.frozen? ⟨w.heap.size + 1, 0, none⟩ = false := hN4.f1
    have kN4 : w'.cell? ⟨w.heap.size + 1, 0, none⟩ = some (.slice A n.length c) := hN4.c1
    have zN4 := hN4.lt
    refine hK.out _ _ ?_ (fun hHeld => ?_)
    ·(try dsimp only)
     try trivial
    clear hK K
    try simp only [layz]
    refine tkz 7 ?_
    try simp only [layz]
    refine rz1 8 (fun K hK => ?_)
    go_simp
    obtain ⟨w5, hw5⟩ : ∃ w5, w5 = w'.setCell ⟨w.heap.size + 1, 0, none⟩ (.slice A' (List.length n') c') := ⟨_, rfl⟩
    rw [← hw5]
    have hN5 : Blk w5 (w.heap.size + 1) 26 #[.slice A' (List.length n') c'] := by rw [hw5]; exact hN4.set_ 0 _
    have hO5 : Blk w5 w.heap.size 26 #[.slice none 0 0] := by rw [hw5]; exact hO4.far b_18 _
    have D5 : Dr B w w5 := by rw [hw5]; exact Dr.set D4 (.inr b_18) _
    have C5 : CurT w5 B := by rw [hw5]; exact Cur.far C4 b_18 _
    have HG5 : Hid (GRow .str (w.heap.size + 1 + 1) [] w5 9 (.slice A' (List.length n') c') n') := by rw [hw5]; exact Lib.hid (GRow.set HR'.out (.inl b_18) _)
    clear hw5 hN4 hO4 D4 C4 HR' fN4 kN4
    have zn5 := hN5.lt
    refine hK.out _ _ ?_ (fun hHeld => ?_)
    ·(try dsimp only)
     try trivial
    clear hK K
    try simp only [layz]
    refine wpAnyH_done b_20 ?_ _
    refine NoPanic.normal ?_
    have hl9 := hl'.out
    go_wp2
    go_roundw
    case rel => exact ⟨k - 1, A', c', n', rfl, by omega, by omega, by omega, C5, D5, hO5, hN5, HG5.out, hA'.out⟩
    case measure => simp [intOf]; omega
   ·go_simp
    refine hK.out _ _ ?_ (fun hHeld => ?_)
    ·(try dsimp only)
     try trivial
    clear hK K
    try simp only [layz]
    refine rz2 1 4 (fun K hK => ?_) (fun K hK => ?_)
    ·go_simp
     refine hK.out _ _ ?_ (fun hHeld => ?_)
     ·(try dsimp only)
      try trivial
     clear hK K
     try simp only [layz]
     refine rz1 4 (fun K hK => ?_)
     go_simp
     go_at_call 31
     refine Calls.mono (C_spec_l1Str _ B _ [[97], [98], [110, 101, 119, 115], [42], [63, 120], [63, 121], [63, 120], [107, 101, 121]] b_4 b_3 b_21 b_21) ?_
     rintro e w3 ⟨hd3, hc3, s, hs, rfl⟩
     have z3 := hd3.size
     (try simp only [World.size_alloc, World.size_drew, size_drewN] at z3)
     have hs9 := pat8 hs
     have hsl : s.length ≤ 9223372036854775807 := by omega
     have E3 : Dr B wr w3 := b_1
     have HG3 := Lib.hid (HGr.out.dr E3 b_22)
     have hO3 := Dr.blk E3 hOr b_22
     have hN3 := Dr.blk E3 hNr b_22
     have kN3 := hN3.c1
     have zN3 := hN3.lt
     have D3 : Dr B w w3 := hdr.trans E3
     clear hs hd3
     refine hK.out _ _ ?_ (fun hHeld => ?_)
     ·(try dsimp only)
      try trivial
     clear hK K
     try simp only [layz]
     refine rz1 5 (fun K hK => ?_)
     go_simp
     refine hK.out _ _ ?_ (fun hHeld => ?_)
     ·(try dsimp only)
      try trivial
     clear hK K
     try simp only [layz]
     refine rz1 6 (fun K hK => ?_)
     refine step_append_grow (e := .str) b_24 _ _ 24 b_24 (w.heap.size + 1 + 1) [] 9 info_str rfl Tryz.underlying24 (.slice A n.length c) _ n [s] b_24 b_24 b_7 (ASrc.flat rfl b_6) ?_ ?_ ?_ ?_ ?_
     ·intro q hq; simp at hq
     ·simp only [List.length_singleton]; omega
     ·simp only [List.length_singleton]; unfold maxLen; omega
     ·exact b_16
     intro v' w' hr' hg'
     have hbl := HG3.out.block
     have hrow : ∀ q, (Value.slice A n.length c).ownBlock = some q → w.heap.size + 1 + 1 ≤ q ∧ q ≠ w.heap.size + 1 := fun q hq => ⟨(hbl q hq).1, fun e => by have := (hbl q hq).1; omega⟩
     have zg := hg'.size
     (try simp only [World.size_alloc, size_drewN, World.size_drew] at zg)
     have hO4 : Blk w' w.heap.size 26 #[.slice none 0 0] := Blk.grown b_8 hg' (fun e => by have := hrow _ e.symm; omega)
     have hN4 : Blk w' (w.heap.size + 1) 26 #[.slice A n.length c] := Blk.grown b_8 hg' (fun e => (hrow _ e.symm).2 rfl)
     have D4 : Dr B w w' := Dr.grown b_1 hg' (fun q hq => by have := hrow q hq; omega)
     have C4 : CurT w' B := Cur.grown b_4 hg' (fun q hq => by have := hrow q hq; omega)
     have hA' := Lib.hid (okAny.app hA.out b_22 hs9)
     obtain ⟨n', hn'⟩ : ∃ n', n' = n ++ [s] := ⟨_, rfl⟩
     rw [← hn'] at hr' hA'
     have hl' := Lib.hid (show n'.length = n.length + 1 by rw [hn', List.length_append, List.length_singleton])
     clear hn'
     obtain ⟨A', c', rfl⟩ := hr'.form
     have HR' := Lib.hid hr'
     clear hr' hg' hbl hrow
     have fN4 : w'.frozen? ⟨w.heap.size + 1, 0, none⟩ = false := hN4.f1
     have kN4 : w'.cell? ⟨w.heap.size + 1, 0, none⟩ = some (.slice A n.length c) := hN4.c1
     have zN4 := hN4.lt
     refine hK.out _ _ ?_ (fun hHeld => ?_)
     ·(try dsimp only)
      try trivial
     clear hK K
     try simp only [layz]
     refine tkz 7 ?_
     try simp only [layz]
     refine rz1 8 (fun K hK => ?_)
     go_simp
     obtain ⟨w5, hw5⟩ : ∃ w5, w5 = w'.setCell ⟨w.heap.size + 1, 0, none⟩ (.slice A' (List.length n') c') := ⟨_, rfl⟩
     rw [← hw5]
     have hN5 : Blk w5 (w.heap.size + 1) 26 #[.slice A' (List.length n') c'] := by rw [hw5]; exact hN4.set_ 0 _
     have hO5 : Blk w5 w.heap.size 26 #[.slice none 0 0] := by rw [hw5]; exact hO4.far b_18 _
     have D5 : Dr B w w5 := by rw [hw5]; exact Dr.set D4 (.inr b_18) _
     have C5 : CurT w5 B := by rw [hw5]; exact Cur.far C4 b_18 _
     have HG5 : Hid (GRow .str (w.heap.size + 1 + 1) [] w5 9 (.slice A' (List.length n') c') n') := by rw [hw5]; exact Lib.hid (GRow.set HR'.out (.inl b_18) _)
     clear hw5 hN4 hO4 D4 C4 HR' fN4 kN4
     have zn5 := hN5.lt
     refine hK.out _ _ ?_ (fun hHeld => ?_)
     ·(try dsimp only)
      try trivial
     clear hK K
     try simp only [layz]
     refine wpAnyH_done b_20 ?_ _
     refine NoPanic.normal ?_
     have hl9 := hl'.out
     go_wp2
     go_roundw
     case rel => exact ⟨k - 1, A', c', n', rfl, by omega, by omega, by omega, C5, D5, hO5, hN5, HG5.out, hA'.out⟩
     case measure => simp [intOf]; omega
    ·go_simp
     go_at_call 31
     refine Calls.mono (C_spec_l1Str _ B _ [[97], [98], [110, 101, 119, 115], [42], [63, 120], [63, 121], [63, 120], [107, 101, 121]] b_4 b_3 b_21 b_21) ?_
     rintro e w3 ⟨hd3, hc3, s, hs, rfl⟩
     have z3 := hd3.size
     (try simp only [World.size_alloc, World.size_drew, size_drewN] at z3)
     have hs9 := pat8 hs
     have hsl : s.length ≤ 9223372036854775807 := by omega
     have E3 : Dr B wr w3 := b_1
     have HG3 := Lib.hid (HGr.out.dr E3 b_22)
     have hO3 := Dr.blk E3 hOr b_22
     have hN3 := Dr.blk E3 hNr b_22
     have kN3 := hN3.c1
     have zN3 := hN3.lt
     have D3 : Dr B w w3 := hdr.trans E3
     clear hs hd3
     refine hK.out _ _ ?_ (fun hHeld => ?_)
     ·(try dsimp only)
      try trivial
     clear hK K
     try simp only [layz]
     refine rz2 1 5 (fun K hK => ?_) (fun K hK => ?_)
     ·go_simp
      refine hK.out _ _ ?_ (fun hHeld => ?_)
      ·(try dsimp only)
       try trivial
      clear hK K
      try simp only [layz]
      refine rz1 5 (fun K hK => ?_)
      go_simp
      refine hK.out _ _ ?_ (fun hHeld => ?_)
      ·(try dsimp only)
       try trivial
      clear hK K
      try simp only [layz]
      refine rz1 6 (fun K hK => ?_)
      refine step_append_grow (e := .str) b_24 _ _ 24 b_24 (w.heap.size + 1 + 1) [] 9 info_str rfl Tryz.underlying24 (.slice A n.length c) _ n [s] b_24 b_24 b_7 (ASrc.flat rfl b_6) ?_ ?_ ?_ ?_ ?_
      ·intro q hq; simp at hq
      ·simp only [List.length_singleton]; omega
      ·simp only [List.length_singleton]; unfold maxLen; omega
      ·exact b_16
      intro v' w' hr' hg'
      have hbl := HG3.out.block
      have hrow : ∀ q, (Value.slice A n.length c).ownBlock = some q → w.heap.size + 1 + 1 ≤ q ∧ q ≠ w.heap.size + 1 := fun q hq => ⟨(hbl q hq).1, fun e => by have := (hbl q hq).1; omega⟩
      have zg := hg'.size
      (try simp only [World.size_alloc, size_drewN, World.size_drew] at zg)
      have hO4 : Blk w' w.heap.size 26 #[.slice none 0 0] := Blk.grown b_8 hg' (fun e => by have := hrow _ e.symm; omega)
      have hN4 : Blk w' (w.heap.size + 1) 26 #[.slice A n.length c] := Blk.grown b_8 hg' (fun e => (hrow _ e.symm).2 rfl)
      have D4 : Dr B w w' := Dr.grown b_1 hg' (fun q hq => by have := hrow q hq; omega)
      have C4 : CurT w' B := Cur.grown b_4 hg' (fun q hq => by have := hrow q hq; omega)
      have hA' := Lib.hid (okAny.app hA.out b_22 hs9)
      obtain ⟨n', hn'⟩ : ∃ n', n' = n ++ [s] := ⟨_, rfl⟩
      rw [← hn'] at hr' hA'
      have hl' := Lib.hid (show n'.length = n.length + 1 by rw [hn', List.length_append, List.length_singleton])
      clear hn'
      obtain ⟨A', c', rfl⟩ := hr'.form
      have HR' := Lib.hid hr'
      clear hr' hg' hbl hrow
      have fN4 : w'.frozen? ⟨w.heap.size + 1, 0, none⟩ = false := hN4.f1
      have kN4 : w'.cell? ⟨w.heap.size + 1, 0, none⟩ = some (.slice A n.length c) := hN4.c1
      have zN4 := hN4.lt
      refine hK.out _ _ ?_ (fun hHeld => ?_)
      ·(try dsimp only)
       try trivial
      clear hK K
      try simp only [layz]
      refine tkz 7 ?_
      try simp only [layz]
      refine rz1 8 (fun K hK => ?_)
      go_simp
      obtain ⟨w5, hw5⟩ : ∃ w5, w5 = w'.setCell ⟨w.heap.size + 1, 0, none⟩ (.slice A' (List.length n') c') := ⟨_, rfl⟩
      rw [← hw5]
      have hN5 : Blk w5 (w.heap.size + 1) 26 #[.slice A' (List.length n') c'] := by rw [hw5]; exact hN4.set_ 0 _
      have hO5 : Blk w5 w.heap.size 26 #[.slice none 0 0] := by rw [hw5]; exact hO4.far b_18 _
      have D5 : Dr B w w5 := by rw [hw5]; exact Dr.set D4 (.inr b_18) _
      have C5 : CurT w5 B := by rw [hw5]; exact Cur.far C4 b_18 _
      have HG5 : Hid (GRow .str (w.heap.size + 1 + 1) [] w5 9 (.slice A' (List.length n') c') n') := by rw [hw5]; exact Lib.hid (GRow.set HR'.out (.inl b_18) _)
      clear hw5 hN4 hO4 D4 C4 HR' fN4 kN4
      have zn5 := hN5.lt
      refine hK.out _ _ ?_ (fun hHeld => ?_)
      ·(try dsimp only)
       try trivial
      clear hK K
      try simp only [layz]
      refine wpAnyH_done b_20 ?_ _
      refine NoPanic.normal ?_
      have hl9 := hl'.out
      go_wp2
      go_roundw
      case rel => exact ⟨k - 1, A', c', n', rfl, by omega, by omega, by omega, C5, D5, hO5, hN5, HG5.out, hA'.out⟩
      case measure => simp [intOf]; omega
     ·go_simp
      refine hK.out _ _ ?_ (fun hHeld => ?_)
      ·(try dsimp only)
       try trivial
      clear hK K
      try simp only [layz]
      refine rz1 1 (fun K hK => ?_)
      go_simp
      refine hK.out _ _ ?_ (fun hHeld => ?_)
      ·(try dsimp only)
       try trivial
      clear hK K
      try simp only [layz]
      refine rz1 6 (fun K hK => ?_)
      refine step_append_grow (e := .str) b_24 _ _ 24 b_24 (w.heap.size + 1 + 1) [] 9 info_str rfl Tryz.underlying24 (.slice A n.length c) _ n [s] b_24 b_24 b_7 (ASrc.flat rfl b_6) ?_ ?_ ?_ ?_ ?_
      ·intro q hq; simp at hq
      ·simp only [List.length_singleton]; omega
      ·simp only [List.length_singleton]; unfold maxLen; omega
      ·exact b_16
      intro v' w' hr' hg'
      have hbl := HG3.out.block
      have hrow : ∀ q, (Value.slice A n.length c).ownBlock = some q → w.heap.size + 1 + 1 ≤ q ∧ q ≠ w.heap.size + 1 := fun q hq => ⟨(hbl q hq).1, fun e => by have := (hbl q hq).1; omega⟩
      have zg := hg'.size
      (try simp only [World.size_alloc, size_drewN, World.size_drew] at zg)
      have hO4 : Blk w' w.heap.size 26 #[.slice none 0 0] := Blk.grown b_8 hg' (fun e => by have := hrow _ e.symm; omega)
      have hN4 : Blk w' (w.heap.size + 1) 26 #[.slice A n.length c] := Blk.grown b_8 hg' (fun e => (hrow _ e.symm).2 rfl)
      have D4 : Dr B w w' := Dr.grown b_1 hg' (fun q hq => by have := hrow q hq; omega)
      have C4 : CurT w' B := Cur.grown b_4 hg' (fun q hq => by have := hrow q hq; omega)
      have hA' := Lib.hid (okAny.app hA.out b_22 hs9)
      obtain ⟨n', hn'⟩ : ∃ n', n' = n ++ [s] := ⟨_, rfl⟩
      rw [← hn'] at hr' hA'
      have hl' := Lib.hid (show n'.length = n.length + 1 by rw [hn', List.length_append, List.length_singleton])
      clear hn'
      obtain ⟨A', c', rfl⟩ := hr'.form
      have HR' := Lib.hid hr'
      clear hr' hg' hbl hrow
      have fN4 : w'.frozen? ⟨w.heap.size + 1, 0, none⟩ = false := hN4.f1
      have kN4 : w'.cell? ⟨w.heap.size + 1, 0, none⟩ = some (.slice A n.length c) := hN4.c1
      have zN4 := hN4.lt
      refine hK.out _ _ ?_ (fun hHeld => ?_)
      ·(try dsimp only)
       try trivial
      clear hK K
      try simp only [layz]
      refine tkz 7 ?_
      try simp only [layz]
      refine rz1 8 (fun K hK => ?_)
      go_simp
      obtain ⟨w5, hw5⟩ : ∃ w5, w5 = w'.setCell ⟨w.heap.size + 1, 0, none⟩ (.slice A' (List.length n') c') := ⟨_, rfl⟩
      rw [← hw5]
      have hN5 : Blk w5 (w.heap.size + 1) 26 #[.slice A' (List.length n') c'] := by rw [hw5]; exact hN4.set_ 0 _
      have hO5 : Blk w5 w.heap.size 26 #[.slice none 0 0] := by rw [hw5]; exact hO4.far b_18 _
      have D5 : Dr B w w5 := by rw [hw5]; exact Dr.set D4 (.inr b_18) _
      have C5 : CurT w5 B := by rw [hw5]; exact Cur.far C4 b_18 _
      have HG5 : Hid (GRow .str (w.heap.size + 1 + 1) [] w5 9 (.slice A' (List.length n') c') n') := by rw [hw5]; exact Lib.hid (GRow.set HR'.out (.inl b_18) _)
      clear hw5 hN4 hO4 D4 C4 HR' fN4 kN4
      have zn5 := hN5.lt
      refine hK.out _ _ ?_ (fun hHeld => ?_)
      ·(try dsimp only)
       try trivial
      clear hK K
      try simp only [layz]
      refine wpAnyH_done b_20 ?_ _
      refine NoPanic.normal ?_
      have hl9 := hl'.out
      go_wp2
      go_roundw
      case rel => exact ⟨k - 1, A', c', n', rfl, by omega, by omega, by omega, C5, D5, hO5, hN5, HG5.out, hA'.out⟩
      case measure => simp [intOf]; omega
  ·go_wp2_with fail
   refine Calls.mono (C_spec_l1Once _ B 4 b_4 b_21 b_21) ?_
   rintro e w3 ⟨hd3, hc3, yes, rfl⟩
   have z3 := hd3.size
   (try simp only [World.size_drew, size_drewN] at z3)
   have E3 : Dr B wr w3 := b_1
   have HG3 := Lib.hid (HGr.out.dr E3 b_22)
   have hO3 := Dr.blk E3 hOr b_22
   have hN3 := Dr.blk E3 hNr b_22
   have kN3 := hN3.c1
   have zN3 := hN3.lt
   have D3 : Dr B w w3 := hdr.trans E3
   clear hd3
   cases yes with
   | false =>
    have kN9 : w3.cell? ⟨w.heap.size + 1, 0, none⟩ = some (.slice A (List.length n) c) := hN3.c1
    have kO9 : w3.cell? ⟨w.heap.size, 0, none⟩ = some (.slice none 0 0) := hO3.c1
    have fO9 : w3.frozen? ⟨w.heap.size, 0, none⟩ = false := hO3.f1
    have zO9 := hO3.lt
    have zN9 := hN3.lt
    have C9 : CurT (w3.setCell ⟨w.heap.size, 0, none⟩ (.slice A (List.length n) c)) B := Cur.far hc3 b_18 _
    have D9 := Dr.set D3 (p := ⟨w.heap.size, 0, none⟩) (.inr (Nat.le_refl _)) (.slice A (List.length n) c)
    have k9 := (Blk.set_ hO3 0 (.slice A (List.length n) c)).c1
    have Q9 := GRow.set HG3.out (p := ⟨w.heap.size, 0, none⟩) (.inl b_18) (.slice A (List.length n) c)
    go_wp2
    refine bodyPost_ret (v := .agg #[.slice A (List.length n) c]) (by simp [results, Tryz.results74, go_sem, kO9, fO9, zO9]) rfl ?_
    exact ⟨D9, C9, _, n, _, rfl, Q9.mono b_22, hA.out, by omega⟩
   | true =>
    set_option maxRecDepth 100000 in go_wp2_with (at_builtin; go_loud (refine wpList_append_grow (e := .str) rfl _ _ 24 rfl (w.heap.size + 1 + 1) [] 9 info_str rfl Tryz.underlying24 (.slice A n.length c) _ n [[42, 42]] rfl rfl b_7 (ASrc.flat rfl b_5) ?_ ?_ ?_ ?_ ?_))
    case refine_1 => intro q hq; simp at hq
    case refine_2 => simp only [List.length_singleton]; omega
    case refine_3 => simp only [List.length_singleton]; unfold maxLen; omega
    case refine_4 => exact b_16
    intro v' w' hr' hg'
    have hbl := HG3.out.block
    have hrow : ∀ q, (Value.slice A n.length c).ownBlock = some q → w.heap.size + 1 + 1 ≤ q ∧ q ≠ w.heap.size + 1 := fun q hq => ⟨(hbl q hq).1, fun e => by have := (hbl q hq).1; omega⟩
    have zg := hg'.size
    (try simp only [World.size_alloc, size_drewN, World.size_drew] at zg)
    have hO4 : Blk w' w.heap.size 26 #[.slice none 0 0] := Blk.grown b_8 hg' (fun e => by have := hrow _ e.symm; omega)
    have hN4 : Blk w' (w.heap.size + 1) 26 #[.slice A n.length c] := Blk.grown b_8 hg' (fun e => (hrow _ e.symm).2 rfl)
    have D4 : Dr B w w' := Dr.grown b_1 hg' (fun q hq => by have := hrow q hq; omega)
    have C4 : CurT w' B := Cur.grown b_4 hg' (fun q hq => by have := hrow q hq; omega)
    have hA' := Lib.hid (okAny.app hA.out b_22 (show List.length ([42, 42] : List UInt8) ≤ 9 by decide))
    obtain ⟨n', hn'⟩ : ∃ n', n' = n ++ [[42, 42]] := ⟨_, rfl⟩
    rw [← hn'] at hr' hA'
    have hl' := Lib.hid (show n'.length = n.length + 1 by rw [hn', List.length_append, List.length_singleton])
    clear hn'
    obtain ⟨A', c', rfl⟩ := hr'.form
    have HR' := Lib.hid hr'
    clear hr' hg' hbl hrow
    have fN4 : w'.frozen? ⟨w.heap.size + 1, 0, none⟩ = false := hN4.f1
    have kN4 : w'.cell? ⟨w.heap.size + 1, 0, none⟩ = some (.slice A n.length c) := hN4.c1
    have zN4 := hN4.lt
    have hN5 : Blk (w'.setCell ⟨w.heap.size + 1, 0, none⟩ (.slice A' (List.length n') c')) (w.heap.size + 1) 26 #[.slice A' (List.length n') c'] := hN4.set_ 0 _
    have hO5 : Blk (w'.setCell ⟨w.heap.size + 1, 0, none⟩ (.slice A' (List.length n') c')) w.heap.size 26 #[.slice none 0 0] := hO4.far b_18 _
    have D5 : Dr B w (w'.setCell ⟨w.heap.size + 1, 0, none⟩ (.slice A' (List.length n') c')) := Dr.set D4 (.inr b_18) _
    have C5 : CurT (w'.setCell ⟨w.heap.size + 1, 0, none⟩ (.slice A' (List.length n') c')) B := Cur.far C4 b_18 _
    have HG5 : Hid (GRow .str (w.heap.size + 1 + 1) [] (w'.setCell ⟨w.heap.size + 1, 0, none⟩ (.slice A' (List.length n') c')) 9 (.slice A' (List.length n') c') n') := Lib.hid (GRow.set HR'.out (.inl b_18) _)
    clear kN kN3 fN
    have kO4 := hO4.c1
    have fO4 : w'.frozen? ⟨w.heap.size, 0, none⟩ = false := hO4.f1
    have zO4 := hO4.lt
    have hne1 : w.heap.size ≠ w.heap.size + 1 := by omega
    have hne2 : w.heap.size + 1 ≠ w.heap.size := by omega
    have kN9 : (w'.setCell ⟨w.heap.size + 1, 0, none⟩ (.slice A' (List.length n') c')).cell? ⟨w.heap.size + 1, 0, none⟩ = some (.slice A' (List.length n') c') := hN5.c1
    have kO9 : (w'.setCell ⟨w.heap.size + 1, 0, none⟩ (.slice A' (List.length n') c')).cell? ⟨w.heap.size, 0, none⟩ = some (.slice none 0 0) := hO5.c1
    have fO9 : (w'.setCell ⟨w.heap.size + 1, 0, none⟩ (.slice A' (List.length n') c')).frozen? ⟨w.heap.size, 0, none⟩ = false := hO5.f1
    have zO9 := hO5.lt
    have zN9 := hN5.lt
    have C9 : CurT ((w'.setCell ⟨w.heap.size + 1, 0, none⟩ (.slice A' (List.length n') c')).setCell ⟨w.heap.size, 0, none⟩ (.slice A' (List.length n') c')) B := Cur.far C5 b_18 _
    have D9 := Dr.set D5 (p := ⟨w.heap.size, 0, none⟩) (.inr (Nat.le_refl _)) (.slice A' (List.length n') c')
    have k9 := (Blk.set_ hO5 0 (.slice A' (List.length n') c')).c1
    have Q9 := GRow.set HG5.out (p := ⟨w.heap.size, 0, none⟩) (.inl b_18) (.slice A' (List.length n') c')
    go_wp2
    refine bodyPost_ret (v := .agg #[.slice A' (List.length n') c']) (by simp [results, Tryz.results74, go_sem, kO9, fO9, zO9]) rfl ?_
    exact ⟨D9, C9, _, n', _, rfl, Q9.mono b_22, hA'.out, by have := hl'.out; omega⟩
set_option maxRecDepth 100000 in
set_option maxHeartbeats 4000000 in
theorem C_spec_l5Any (w : World) (B : Nat) (hc : CurT w B) :
  Calls Tryz.prog 53 #[pB B] w (RetDT B w (DrR (.sl .str) w okAny)) := by
 have hB := hc.lt
 go_enter Tryz.func53, Tryz.ntmps53
 go_wp2_with fail
 refine Calls.mono (C_spec_l5Pat _ B b_4) ?_
 rintro e w1 ⟨hd1, hc1, A, n, c, rfl, hG, hok, hnl4⟩
 have z1 := hd1.size
 simp only [World.size_alloc] at z1
 have D1 : Dr B w w1 := b_1
 have hO1 : Blk w1 w.heap.size 26 #[.slice none 0 0] := Dr.blk hd1 (Blk.new w _ _) b_22
 rw [World.size_alloc] at hG
 have HG := Lib.hid (hG.addEx (g := w1.heap.size) (Nat.le_refl _))
 have hA := Lib.hid hok
 clear hG hok
 go_wp2_with fail
 refine Calls.mono (C_spec_l1Below _ B 10 b_4 b_21 b_21) ?_
 rintro e w2 ⟨hd2, hc2, x, rfl, hx0, hx1⟩
 have z2 := hd2.size
 simp only [World.size_alloc] at z2
 have E2 : Dr B w1 w2 := b_1
 have D2 := D1.trans E2
 have hO2 := Dr.blk E2 hO1 b_22
 have hN2 : Blk w2 w1.heap.size 26 #[.slice A n.length c] := Dr.blk hd2 (Blk.new w1 _ _) b_22
 have HG2 := Lib.hid (HG.out.dr E2 b_22)
 clear HG hd1 hd2 hO1 E2 D1 hc1
 have zN2 := hN2.lt
 have kN : w2.cell? ⟨w1.heap.size, 0, none⟩ = some (.slice A n.length c) := hN2.c1
 have fN : w2.frozen? ⟨w1.heap.size, 0, none⟩ = false := hN2.f1
 rcases (show x = 0 ∨ x = 1 ∨ x = 2 ∨ (x ≠ 0 ∧ x ≠ 1 ∧ x ≠ 2) by omega) with rfl | rfl | rfl | hx
 ·go_wp2_with fail
  refine wp_region_noPanic ?_
  refine wp_region_held_drew (S := (fun _ => True)) b_20 ?_ (fun hHeld => ?_)
  ·trivial
  refine tkz2 0 2 ?_
  try simp only [layz]
  refine rz2 1 3 (fun K hK => ?_) (fun K hK => ?_)
  ·go_simp
   refine hK.out _ _ ?_ (fun hHeld => ?_)
   ·(try dsimp only)
    try trivial
   clear hK K
   try simp only [layz]
   refine rz1 3 (fun K hK => ?_)
   go_simp
   refine hK.out _ _ ?_ (fun hHeld => ?_)
   ·(try dsimp only)
    try trivial
   clear hK K
   try simp only [layz]
   refine rz1 4 (fun K hK => ?_)
   go_simp
   go_at_call 31
   refine Calls.mono (C_spec_l1Str _ B _ [[], [63], [63, 120, 120], [63, 65], [65], [42, 42, 42]] b_4 b_3 b_21 b_21) ?_
   rintro e w3 ⟨hd3, hc3, s, hs, rfl⟩
   have z3 := hd3.size
   (try simp only [World.size_alloc, World.size_drew, size_drewN] at z3)
   have hs9 := pat6 hs
   have hsl : s.length ≤ 9223372036854775807 := by omega
   have E3 : Dr B w2 w3 := b_1
   have HG3 := Lib.hid (HG2.out.dr E3 b_22)
   have hO3 := Dr.blk E3 hO2 b_22
   have hN3 := Dr.blk E3 hN2 b_22
   have kN3 := hN3.c1
   have zN3 := hN3.lt
   have D3 : Dr B w w3 := D2.trans E3
   clear hs hd3
   refine hK.out _ _ ?_ (fun hHeld => ?_)
   ·(try dsimp only)
    try trivial
   clear hK K
   try simp only [layz]
   refine rz1 5 (fun K hK => ?_)
   go_simp
   refine hK.out _ _ ?_ (fun hHeld => ?_)
   ·(try dsimp only)
    try trivial
   clear hK K
   try simp only [layz]
   refine rz1 6 (fun K hK => ?_)
   refine step_append_grow (e := .str) b_24 _ _ 24 b_24 (w.heap.size + 1) [w1.heap.size] 9 info_str rfl Tryz.underlying24 (.slice A n.length c) _ n [s] b_24 b_24 b_7 (ASrc.flat rfl b_6) ?_ ?_ ?_ ?_ ?_
   ·intro q hq; simp at hq; subst hq; exact b_16
   ·simp only [List.length_singleton]; omega
   ·simp only [List.length_singleton]; unfold maxLen; omega
   ·exact b_16
   intro v' w' hr' hg'
   have hbl := HG3.out.block
   have hrow : ∀ q, (Value.slice A n.length c).ownBlock = some q → w.heap.size + 1 ≤ q ∧ q ≠ w1.heap.size := fun q hq => ⟨(hbl q hq).1, fun e => (hbl q hq).2.2 (by rw [e]; simp)⟩
   have zg := hg'.size
   (try simp only [World.size_alloc, size_drewN, World.size_drew] at zg)
   have hO4 : Blk w' w.heap.size 26 #[.slice none 0 0] := Blk.grown b_8 hg' (fun e => by have := hrow _ e.symm; omega)
   have hN4 : Blk w' (w1.heap.size) 26 #[.slice A n.length c] := Blk.grown b_8 hg' (fun e => (hrow _ e.symm).2 rfl)
   have D4 : Dr B w w' := Dr.grown b_1 hg' (fun q hq => by have := hrow q hq; omega)
   have C4 : CurT w' B := Cur.grown b_4 hg' (fun q hq => by have := hrow q hq; omega)
   have hA' := Lib.hid (okAny.app hA.out b_22 hs9)
   obtain ⟨n', hn'⟩ : ∃ n', n' = n ++ [s] := ⟨_, rfl⟩
   rw [← hn'] at hr' hA'
   have hl' := Lib.hid (show n'.length = n.length + 1 by rw [hn', List.length_append, List.length_singleton])
   clear hn'
   obtain ⟨A', c', rfl⟩ := hr'.form
   have HR' := Lib.hid hr'
   clear hr' hg' hbl hrow
   have fN4 : w'.frozen? ⟨w1.heap.size, 0, none⟩ = false := hN4.f1
   have kN4 : w'.cell? ⟨w1.heap.size, 0, none⟩ = some (.slice A n.length c) := hN4.c1
   have zN4 := hN4.lt
   refine hK.out _ _ ?_ (fun hHeld => ?_)
   ·(try dsimp only)
    try trivial
   clear hK K
   try simp only [layz]
   refine tkz 7 ?_
   try simp only [layz]
   refine rz1 8 (fun K hK => ?_)
   go_simp
   obtain ⟨w5, hw5⟩ : ∃ w5, w5 = w'.setCell ⟨w1.heap.size, 0, none⟩ (.slice A' (List.length n') c') := ⟨_, rfl⟩
   rw [← hw5]
   have hN5 : Blk w5 (w1.heap.size) 26 #[.slice A' (List.length n') c'] := by rw [hw5]; exact hN4.set_ 0 _
   have hO5 : Blk w5 w.heap.size 26 #[.slice none 0 0] := by rw [hw5]; exact hO4.far b_18 _
   have D5 : Dr B w w5 := by rw [hw5]; exact Dr.set D4 (.inr b_18) _
   have C5 : CurT w5 B := by rw [hw5]; exact Cur.far C4 b_18 _
   have HG5 : Hid (GRow .str (w.heap.size + 1) [w1.heap.size] w5 9 (.slice A' (List.length n') c') n') := by rw [hw5]; exact Lib.hid (GRow.set HR'.out (.inr b_23) _)
   clear hw5 hN4 hO4 D4 C4 HR' fN4 kN4
   have zn5 := hN5.lt
   refine hK.out _ _ ?_ (fun hHeld => ?_)
   ·(try dsimp only)
    try trivial
   clear hK K
   try simp only [layz]
   refine wpAnyH_done b_20 ?_ _
   refine NoPanic.normal ?_
   have kN9 : w5.cell? ⟨w1.heap.size, 0, none⟩ = some (.slice A' (List.length n') c') := hN5.c1
   have kO9 : w5.cell? ⟨w.heap.size, 0, none⟩ = some (.slice none 0 0) := hO5.c1
   have fO9 : w5.frozen? ⟨w.heap.size, 0, none⟩ = false := hO5.f1
   have zO9 := hO5.lt
   have zN9 := hN5.lt
   have C9 : CurT (w5.setCell ⟨w.heap.size, 0, none⟩ (.slice A' (List.length n') c')) B := Cur.far C5 b_18 _
   have D9 := Dr.set D5 (p := ⟨w.heap.size, 0, none⟩) (.inr (Nat.le_refl _)) (.slice A' (List.length n') c')
   have k9 := (Blk.set_ hO5 0 (.slice A' (List.length n') c')).c1
   have Q9 := GRow.set HG5.out (p := ⟨w.heap.size, 0, none⟩) (.inl b_18) (.slice A' (List.length n') c')
   go_wp2_with fail
   refine bodyPost_ret (v := .agg #[.slice A' (List.length n') c']) (by simp [results, Tryz.results53, go_sem, kO9, fO9, zO9]) rfl ?_
   exact ⟨D9, C9, _, n', rfl, Q9.rdI.mono b_22 (Nat.le_refl _) (Nat.le_refl _), hA'.out⟩
  ·go_simp
   refine hK.out _ _ ?_ (fun hHeld => ?_)
   ·(try dsimp only)
    try trivial
   clear hK K
   try simp only [layz]
   refine rz2 1 4 (fun K hK => ?_) (fun K hK => ?_)
   ·go_simp
    refine hK.out _ _ ?_ (fun hHeld => ?_)
    ·(try dsimp only)
     try trivial
    clear hK K
    try simp only [layz]
    refine rz1 4 (fun K hK => ?_)
    go_simp
    go_at_call 31
    refine Calls.mono (C_spec_l1Str _ B _ [[], [63], [63, 120, 120], [63, 65], [65], [42, 42, 42]] b_4 b_3 b_21 b_21) ?_
    rintro e w3 ⟨hd3, hc3, s, hs, rfl⟩
    have z3 := hd3.size
    (try simp only [World.size_alloc, World.size_drew, size_drewN] at z3)
    have hs9 := pat6 hs
    have hsl : s.length ≤ 9223372036854775807 := by omega
    have E3 : Dr B w2 w3 := b_1
    have HG3 := Lib.hid (HG2.out.dr E3 b_22)
    have hO3 := Dr.blk E3 hO2 b_22
    have hN3 := Dr.blk E3 hN2 b_22
    have kN3 := hN3.c1
    have zN3 := hN3.lt
    have D3 : Dr B w w3 := D2.trans E3
    clear hs hd3
    refine hK.out _ _ ?_ (fun hHeld => ?_)
    ·(try dsimp only)
     try trivial
    clear hK K
    try simp only [layz]
    refine rz1 5 (fun K hK => ?_)
    go_simp
    refine hK.out _ _ ?_ (fun hHeld => ?_)
    ·(try dsimp only)
     try trivial
    clear hK K
    try simp only [layz]
    refine rz1 6 (fun K hK => ?_)
    refine step_append_grow (e := .str) b_24 _ _ 24 b_24 (w.heap.size + 1) [w1.heap.size] 9 info_str rfl Tryz.underlying24 (.slice A n.length c) _ n [s] b_24 b_24 b_7 (ASrc.flat rfl b_6) ?_ ?_ ?_ ?_ ?_
    ·intro q hq; simp at hq; subst hq; exact b_16
    ·simp only [List.length_singleton]; omega
    ·simp only [List.length_singleton]; unfold maxLen; omega
    ·exact b_16
    intro v' w' hr' hg'
    have hbl := HG3.out.block
    have hrow : ∀ q, (Value.slice A n.length c).ownBlock = some q → w.heap.size + 1 ≤ q ∧ q ≠ w1.heap.size := fun q hq => ⟨(hbl q hq).1, fun e => (hbl q hq).2.2 (by rw [e]; simp)⟩
    have zg := hg'.size
    (try simp only [World.size_alloc, size_drewN, World.size_drew] at zg)
    have hO4 : Blk w' w.heap.size 26 #[.slice none 0 0] := Blk.grown b_8 hg' (fun e => by have := hrow _ e.symm; omega)
    have hN4 : Blk w' (w1.heap.size) 26 #[.slice A n.length c] := Blk.grown b_8 hg' (fun e => (hrow _ e.symm).2 rfl)
    have D4 : Dr B w w' := Dr.grown b_1 hg' (fun q hq => by have := hrow q hq; omega)
    have C4 : CurT w' B := Cur.grown b_4 hg' (fun q hq => by have := hrow q hq; omega)
    have hA' := Lib.hid (okAny.app hA.out b_22 hs9)
    obtain ⟨n', hn'⟩ : ∃ n', n' = n ++ [s] := ⟨_, rfl⟩
    rw [← hn'] at hr' hA'
    have hl' := Lib.hid (show n'.length = n.length + 1 by rw [hn', List.length_append, List.length_singleton])
    clear hn'
    obtain ⟨A', c', rfl⟩ := hr'.form
    have HR' := Lib.hid hr'
    clear hr' hg' hbl hrow
    have fN4 : w'.frozen? ⟨w1.heap.size, 0, none⟩ = false := hN4.f1
    have kN4 : w'.cell? ⟨w1.heap.size, 0, none⟩ = some (.slice A n.length c) := hN4.c1
    have zN4 := hN4.lt
    refine hK.out _ _ ?_ (fun hHeld => ?_)
    ·(try dsimp only)
     try trivial
    clear hK K
    try simp only [layz]
    refine tkz 7 ?_
    try simp only [layz]
    refine rz1 8 (fun K hK => ?_)
    go_simp
    obtain ⟨w5, hw5⟩ : ∃ w5, w5 = w'.setCell ⟨w1.heap.size, 0, none⟩ (.slice A' (List.length n') c') := ⟨_, rfl⟩
    rw [← hw5]
    have hN5 : Blk w5 (w1.heap.size) 26 #[.slice A' (List.length n') c'] := by rw [hw5]; exact hN4.set_ 0 _
    have hO5 : Blk w5 w.heap.size 26 #[.slice none 0 0] := by rw [hw5]; exact hO4.far b_18 _
    have D5 : Dr B w w5 := by rw [hw5]; exact Dr.set D4 (.inr b_18) _
    have C5 : CurT w5 B := by rw [hw5]; exact Cur.far C4 b_18 _
    have HG5 : Hid (GRow .str (w.heap.size + 1) [w1.heap.size] w5 9 (.slice A' (List.length n') c') n') := by rw [hw5]; exact Lib.hid (GRow.set HR'.out (.inr b_23) _)
    clear hw5 hN4 hO4 D4 C4 HR' fN4 kN4
    have zn5 := hN5.lt
    refine hK.out _ _ ?_ (fun hHeld => ?_)
    ·(try dsimp only)
     try trivial
    clear hK K
    try simp only [layz]
    refine wpAnyH_done b_20 ?_ _
    refine NoPanic.normal ?_
    have kN9 : w5.cell? ⟨w1.heap.size, 0, none⟩ = some (.slice A' (List.length n') c') := hN5.c1
    have kO9 : w5.cell? ⟨w.heap.size, 0, none⟩ = some (.slice none 0 0) := hO5.c1
    have fO9 : w5.frozen? ⟨w.heap.size, 0, none⟩ = false := hO5.f1
    have zO9 := hO5.lt
    have zN9 := hN5.lt
    have C9 : CurT (w5.setCell ⟨w.heap.size, 0, none⟩ (.slice A' (List.length n') c')) B := Cur.far C5 b_18 _
    have D9 := Dr.set D5 (p := ⟨w.heap.size, 0, none⟩) (.inr (Nat.le_refl _)) (.slice A' (List.length n') c')
    have k9 := (Blk.set_ hO5 0 (.slice A' (List.length n') c')).c1
    have Q9 := GRow.set HG5.out (p := ⟨w.heap.size, 0, none⟩) (.inl b_18) (.slice A' (List.length n') c')
    go_wp2_with fail
    refine bodyPost_ret (v := .agg #[.slice A' (List.length n') c']) (by simp [results, Tryz.results53, go_sem, kO9, fO9, zO9]) rfl ?_
    exact ⟨D9, C9, _, n', rfl, Q9.rdI.mono b_22 (Nat.le_refl _) (Nat.le_refl _), hA'.out⟩
   ·go_simp
    go_at_call 31
    refine Calls.mono (C_spec_l1Str _ B _ [[], [63], [63, 120, 120], [63, 65], [65], [42, 42, 42]] b_4 b_3 b_21 b_21) ?_
    rintro e w3 ⟨hd3, hc3, s, hs, rfl⟩
    have z3 := hd3.size
    (try simp only [World.size_alloc, World.size_drew, size_drewN] at z3)
    have hs9 := pat6 hs
    have hsl : s.length ≤ 9223372036854775807 := by omega
    have E3 : Dr B w2 w3 := b_1
    have HG3 := Lib.hid (HG2.out.dr E3 b_22)
    have hO3 := Dr.blk E3 hO2 b_22
    have hN3 := Dr.blk E3 hN2 b_22
    have kN3 := hN3.c1
    have zN3 := hN3.lt
    have D3 : Dr B w w3 := D2.trans E3
    clear hs hd3
    refine hK.out _ _ ?_ (fun hHeld => ?_)
    ·(try dsimp only)
     try trivial
    clear hK K
    try simp only [layz]
    refine rz2 1 5 (fun K hK => ?_) (fun K hK => ?_)
    ·go_simp
     refine hK.out _ _ ?_ (fun hHeld => ?_)
     ·(try dsimp only)
      try trivial
     clear hK K
     try simp only [layz]
     refine rz1 5 (fun K hK => ?_)
     go_simp
     refine hK.out _ _ ?_ (fun hHeld => ?_)
     ·(try dsimp only)
      try trivial
     clear hK K
     try simp only [layz]
     refine rz1 6 (fun K hK => ?_)
     refine step_append_grow (e := .str) b_24 _ _ 24 b_24 (w.heap.size + 1) [w1.heap.size] 9 info_str rfl Tryz.underlying24 (.slice A n.length c) _ n [s] b_24 b_24 b_7 (ASrc.flat rfl b_6) ?_ ?_ ?_ ?_ ?_
     ·intro q hq; simp at hq; subst hq; exact b_16
     ·simp only [List.length_singleton]; omega
     ·simp only [List.length_singleton]; unfold maxLen; omega
     ·exact b_16
     intro v' w' hr' hg'
     have hbl := HG3.out.block
     have hrow : ∀ q, (Value.slice A n.length c).ownBlock = some q → w.heap.size + 1 ≤ q ∧ q ≠ w1.heap.size := fun q hq => ⟨(hbl q hq).1, fun e => (hbl q hq).2.2 (by rw [e]; simp)⟩
     have zg := hg'.size
     (try simp only [World.size_alloc, size_drewN, World.size_drew] at zg)
     have hO4 : Blk w' w.heap.size 26 #[.slice none 0 0] := Blk.grown b_8 hg' (fun e => by have := hrow _ e.symm; omega)
     have hN4 : Blk w' (w1.heap.size) 26 #[.slice A n.length c] := Blk.grown b_8 hg' (fun e => (hrow _ e.symm).2 rfl)
     have D4 : Dr B w w' := Dr.grown b_1 hg' (fun q hq => by have := hrow q hq; omega)
     have C4 : CurT w' B := Cur.grown b_4 hg' (fun q hq => by have := hrow q hq; omega)
     have hA' := Lib.hid (okAny.app hA.out b_22 hs9)
     obtain ⟨n', hn'⟩ : ∃ n', n' = n ++ [s] := ⟨_, rfl⟩
     rw [← hn'] at hr' hA'
     have hl' := Lib.hid (show n'.length = n.length + 1 by rw [hn', List.length_append, List.length_singleton])
     clear hn'
     obtain ⟨A', c', rfl⟩ := hr'.form
     have HR' := Lib.hid hr'
     clear hr' hg' hbl hrow
     have fN4 : w'.frozen? ⟨w1.heap.size, 0, none⟩ = false := hN4.f1
     have kN4 : w'.cell? ⟨w1.heap.size, 0, none⟩ = some (.slice A n.length c) := hN4.c1
     have zN4 := hN4.lt
     refine hK.out _ _ ?_ (fun hHeld => ?_)
     ·(try dsimp only)
      try trivial
     clear hK K
     try simp only [layz]
     refine tkz 7 ?_
     try simp only [layz]
     refine rz1 8 (fun K hK => ?_)
     go_simp
     obtain ⟨w5, hw5⟩ : ∃ w5, w5 = w'.setCell ⟨w1.heap.size, 0, none⟩ (.slice A' (List.length n') c') := ⟨_, rfl⟩
     rw [← hw5]
     have hN5 : Blk w5 (w1.heap.size) 26 #[.slice A' (List.length n') c'] := by rw [hw5]; exact hN4.set_ 0 _
     have hO5 : Blk w5 w.heap.size 26 #[.slice none 0 0] := by rw [hw5]; exact hO4.far b_18 _
     have D5 : Dr B w w5 := by rw [hw5]; exact Dr.set D4 (.inr b_18) _
     have C5 : CurT w5 B := by rw [hw5]; exact Cur.far C4 b_18 _
     have HG5 : Hid (GRow .str (w.heap.size + 1) [w1.heap.size] w5 9 (.slice A' (List.length n') c') n') := by rw [hw5]; exact Lib.hid (GRow.set HR'.out (.inr b_23) _)
     clear hw5 hN4 hO4 D4 C4 HR' fN4 kN4
     have zn5 := hN5.lt
     refine hK.out _ _ ?_ (fun hHeld => ?_)
     ·(try dsimp only)
      try trivial
     clear hK K
     try simp only [layz]
     refine wpAnyH_done b_20 ?_ _
     refine NoPanic.normal ?_
     have kN9 : w5.cell? ⟨w1.heap.size, 0, none⟩ = some (.slice A' (List.length n') c') := hN5.c1
     have kO9 : w5.cell? ⟨w.heap.size, 0, none⟩ = some (.slice none 0 0) := hO5.c1
     have fO9 : w5.frozen? ⟨w.heap.size, 0, none⟩ = false := hO5.f1
     have zO9 := hO5.lt
     have zN9 := hN5.lt
     have C9 : CurT (w5.setCell ⟨w.heap.size, 0, none⟩ (.slice A' (List.length n') c')) B := Cur.far C5 b_18 _
     have D9 := Dr.set D5 (p := ⟨w.heap.size, 0, none⟩) (.inr (Nat.le_refl _)) (.slice A' (List.length n') c')
     have k9 := (Blk.set_ hO5 0 (.slice A' (List.length n') c')).c1
     have Q9 := GRow.set HG5.out (p := ⟨w.heap.size, 0, none⟩) (.inl b_18) (.slice A' (List.length n') c')
     go_wp2_with fail
     refine bodyPost_ret (v := .agg #[.slice A' (List.length n') c']) (by simp [results, Tryz.results53, go_sem, kO9, fO9, zO9]) rfl ?_
     exact ⟨D9, C9, _, n', rfl, Q9.rdI.mono b_22 (Nat.le_refl _) (Nat.le_refl _), hA'.out⟩
    ·go_simp
     refine hK.out _ _ ?_ (fun hHeld => ?_)
     ·(try dsimp only)
      try trivial
     clear hK K
     try simp only [layz]
     refine rz1 1 (fun K hK => ?_)
     go_simp
     refine hK.out _ _ ?_ (fun hHeld => ?_)
     ·(try dsimp only)
      try trivial
     clear hK K
     try simp only [layz]
     refine rz1 6 (fun K hK => ?_)
     refine step_append_grow (e := .str) b_24 _ _ 24 b_24 (w.heap.size + 1) [w1.heap.size] 9 info_str rfl Tryz.underlying24 (.slice A n.length c) _ n [s] b_24 b_24 b_7 (ASrc.flat rfl b_6) ?_ ?_ ?_ ?_ ?_
     ·intro q hq; simp at hq; subst hq; exact b_16
     ·simp only [List.length_singleton]; omega
     ·simp only [List.length_singleton]; unfold maxLen; omega
     ·exact b_16
     intro v' w' hr' hg'
     have hbl := HG3.out.block
     have hrow : ∀ q, (Value.slice A n.length c).ownBlock = some q → w.heap.size + 1 ≤ q ∧ q ≠ w1.heap.size := fun q hq => ⟨(hbl q hq).1, fun e => (hbl q hq).2.2 (by rw [e]; simp)⟩
     have zg := hg'.size
     (try simp only [World.size_alloc, size_drewN, World.size_drew] at zg)
     have hO4 : Blk w' w.heap.size 26 #[.slice none 0 0] := Blk.grown b_8 hg' (fun e => by have := hrow _ e.symm; omega)
     have hN4 : Blk w' (w1.heap.size) 26 #[.slice A n.length c] := Blk.grown b_8 hg' (fun e => (hrow _ e.symm).2 rfl)
     have D4 : Dr B w w' := Dr.grown b_1 hg' (fun q hq => by have := hrow q hq; omega)
     have C4 : CurT w' B := Cur.grown b_4 hg' (fun q hq => by have := hrow q hq; omega)
     have hA' := Lib.hid (okAny.app hA.out b_22 hs9)
     obtain ⟨n', hn'⟩ : ∃ n', n' = n ++ [s] := ⟨_, rfl⟩
     rw [← hn'] at hr' hA'
     have hl' := Lib.hid (show n'.length = n.length + 1 by rw [hn', List.length_append, List.length_singleton])
     clear hn'
     obtain ⟨A', c', rfl⟩ := hr'.form
     have HR' := Lib.hid hr'
     clear hr' hg' hbl hrow
     have fN4 : w'.frozen? ⟨w1.heap.size, 0, none⟩ = false := hN4.f1
     have kN4 : w'.cell? ⟨w1.heap.size, 0, none⟩ = some (.slice A n.length c) := hN4.c1
     have zN4 := hN4.lt
     refine hK.out _ _ ?_ (fun hHeld => ?_)
     ·(try dsimp only)
      try trivial
     clear hK K
     try simp only [layz]
     refine tkz 7 ?_
     try simp only [layz]
     refine rz1 8 (fun K hK => ?_)
     go_simp
     obtain ⟨w5, hw5⟩ : ∃ w5, w5 = w'.setCell ⟨w1.heap.size, 0, none⟩ (.slice A' (List.length n') c') := ⟨_, rfl⟩
     rw [← hw5]
     have hN5 : Blk w5 (w1.heap.size) 26 #[.slice A' (List.length n') c'] := by rw [hw5]; exact hN4.set_ 0 _
     have hO5 : Blk w5 w.heap.size 26 #[.slice none 0 0] := by rw [hw5]; exact hO4.far b_18 _
     have D5 : Dr B w w5 := by rw [hw5]; exact Dr.set D4 (.inr b_18) _
     have C5 : CurT w5 B := by rw [hw5]; exact Cur.far C4 b_18 _
     have HG5 : Hid (GRow .str (w.heap.size + 1) [w1.heap.size] w5 9 (.slice A' (List.length n') c') n') := by rw [hw5]; exact Lib.hid (GRow.set HR'.out (.inr b_23) _)
     clear hw5 hN4 hO4 D4 C4 HR' fN4 kN4
     have zn5 := hN5.lt
     refine hK.out _ _ ?_ (fun hHeld => ?_)
     ·(try dsimp only)
      try trivial
     clear hK K
     try simp only [layz]
     refine wpAnyH_done b_20 ?_ _
     refine NoPanic.normal ?_
     have kN9 : w5.cell? ⟨w1.heap.size, 0, none⟩ = some (.slice A' (List.length n') c') := hN5.c1
     have kO9 : w5.cell? ⟨w.heap.size, 0, none⟩ = some (.slice none 0 0) := hO5.c1
     have fO9 : w5.frozen? ⟨w.heap.size, 0, none⟩ = false := hO5.f1
     have zO9 := hO5.lt
     have zN9 := hN5.lt
     have C9 : CurT (w5.setCell ⟨w.heap.size, 0, none⟩ (.slice A' (List.length n') c')) B := Cur.far C5 b_18 _
     have D9 := Dr.set D5 (p := ⟨w.heap.size, 0, none⟩) (.inr (Nat.le_refl _)) (.slice A' (List.length n') c')
     have k9 := (Blk.set_ hO5 0 (.slice A' (List.length n') c')).c1
     have Q9 := GRow.set HG5.out (p := ⟨w.heap.size, 0, none⟩) (.inl b_18) (.slice A' (List.length n') c')
     go_wp2_with fail
     refine bodyPost_ret (v := .agg #[.slice A' (List.length n') c']) (by simp [results, Tryz.results53, go_sem, kO9, fO9, zO9]) rfl ?_
     exact ⟨D9, C9, _, n', rfl, Q9.rdI.mono b_22 (Nat.le_refl _) (Nat.le_refl _), hA'.out⟩
 ·have HL := Lib.hid ((GRow.ofRow (lo := w2.heap.size) rfl (Row.lit1 flatS w2 9 [42, 42] (show List.length _ ≤ _ by decide) (Nat.le_refl _))))
  have hAn := Lib.hid (show okAny ([42, 42] :: n) from okAny.cons hA.out b_22 (show List.length ([42, 42] : List UInt8) ≤ 9 by decide))
  set_option maxRecDepth 100000 in go_wp2_with (at_builtin; go_loud (refine wpList_append_grow (e := .str) rfl _ _ 24 rfl (w2.heap.size) [] 9 info_str rfl Tryz.underlying24 (.slice (some ⟨w2.heap.size, 0, none⟩) 1 1) (.slice A n.length c) [[42, 42]] n rfl rfl HL.out (ASrc.flat rfl (Ty.rd_below b_2 HG2.out.rd)) ?_ ?_ ?_ ?_ ?_))
  case refine_1 => intro q hq; simp at hq
  case refine_2 => simp only [List.length_singleton]; omega
  case refine_3 => simp only [List.length_singleton]; unfold maxLen; omega
  case refine_4 => exact b_16
  intro v' w' hr' hg'
  have hrow : ∀ q, (Value.slice (some ⟨w2.heap.size, 0, none⟩) 1 1).ownBlock = some q → w2.heap.size ≤ q := fun q hq => by simp [Value.ownBlock] at hq; omega
  have zg := hg'.size
  (try simp only [World.size_alloc, size_drewN, World.size_drew] at zg)
  have hO4 : Blk w' w.heap.size 26 #[.slice none 0 0] := Blk.grown b_8 hg' (fun e => by have := hrow _ e.symm; omega)
  have hN4 : Blk w' (w1.heap.size) 26 #[.slice A n.length c] := Blk.grown b_8 hg' (fun e => by have := hrow _ e.symm; omega)
  have D4 : Dr B w w' := Dr.grown b_1 hg' (fun q hq => by have := hrow q hq; omega)
  have C4 : CurT w' B := Cur.grown b_4 hg' (fun q hq => by have := hrow q hq; omega)
  obtain ⟨n', hn'⟩ : ∃ n', n' = [42, 42] :: n := ⟨_, rfl⟩
  rw [← hn'] at hr' hAn
  clear hn'
  obtain ⟨A', c', rfl⟩ := hr'.form
  have HR' := Lib.hid hr'
  clear hr' hg' hrow HL
  have fN4 : w'.frozen? ⟨w1.heap.size, 0, none⟩ = false := hN4.f1
  have kN4 : w'.cell? ⟨w1.heap.size, 0, none⟩ = some (.slice A n.length c) := hN4.c1
  have zN4 := hN4.lt
  have hN5 := hN4.set_ 0 (.slice A' (List.length n') c')
  have hO5 := hO4.far (p := ⟨w1.heap.size, 0, none⟩) b_18 (.slice A' (List.length n') c')
  have D5 := Dr.set D4 (p := ⟨w1.heap.size, 0, none⟩) (.inr b_18) (.slice A' (List.length n') c')
  have C5 := Cur.far C4 (p := ⟨w1.heap.size, 0, none⟩) b_18 (.slice A' (List.length n') c')
  have HG5 := Lib.hid (GRow.set HR'.out (p := ⟨w1.heap.size, 0, none⟩) (.inl b_18) (.slice A' (List.length n') c'))
  clear kN fN
  have kO4 := hO4.c1
  have fO4 : w'.frozen? ⟨w.heap.size, 0, none⟩ = false := hO4.f1
  have zO4 := hO4.lt
  have hne1 : w.heap.size ≠ w1.heap.size := by omega
  have hne2 : w1.heap.size ≠ w.heap.size := by omega
  have kN9 : (w'.setCell ⟨w1.heap.size, 0, none⟩ (.slice A' (List.length n') c')).cell? ⟨w1.heap.size, 0, none⟩ = some (.slice A' (List.length n') c') := hN5.c1
  have kO9 : (w'.setCell ⟨w1.heap.size, 0, none⟩ (.slice A' (List.length n') c')).cell? ⟨w.heap.size, 0, none⟩ = some (.slice none 0 0) := hO5.c1
  have fO9 : (w'.setCell ⟨w1.heap.size, 0, none⟩ (.slice A' (List.length n') c')).frozen? ⟨w.heap.size, 0, none⟩ = false := hO5.f1
  have zO9 := hO5.lt
  have zN9 := hN5.lt
  have C9 : CurT ((w'.setCell ⟨w1.heap.size, 0, none⟩ (.slice A' (List.length n') c')).setCell ⟨w.heap.size, 0, none⟩ (.slice A' (List.length n') c')) B := Cur.far C5 b_18 _
  have D9 := Dr.set D5 (p := ⟨w.heap.size, 0, none⟩) (.inr (Nat.le_refl _)) (.slice A' (List.length n') c')
  have k9 := (Blk.set_ hO5 0 (.slice A' (List.length n') c')).c1
  have Q9 := GRow.set HG5.out (p := ⟨w.heap.size, 0, none⟩) (.inl b_18) (.slice A' (List.length n') c')
  go_wp2
  refine bodyPost_ret (v := .agg #[.slice A' (List.length n') c']) (by simp [results, Tryz.results53, go_sem, kO9, fO9, zO9]) rfl ?_
  exact ⟨D9, C9, _, n', rfl, Q9.rdI.mono b_22 (Nat.le_refl _) (Nat.le_refl _), hAn.out⟩
 ·go_wp2
  go_loopw [] (fun wr => ∃ (A : Option Addr) (c : Nat) (n : List (List UInt8)), CurT wr B ∧ Dr B w wr ∧ Blk wr w.heap.size 26 #[.slice none 0 0] ∧ Blk wr w1.heap.size 26 #[.slice A n.length c] ∧ GRow .str (w.heap.size + 1) [w1.heap.size] wr 9 (.slice A n.length c) n ∧ okAny n) (fun wr => 7 - cellLen w1.heap.size wr)
  case atStart => exact ⟨A, c, n, hc2, D2, hO2, hN2, HG2.out, hA.out⟩
  case round =>
   obtain ⟨A, c, n, hcr, hdr, hOr, hNr, hGr, hAr⟩ := hrel
   have HGr := Lib.hid hGr
   have hA := Lib.hid hAr
   clear hGr hAr HG2 hO2 hN2 kN fN hc2
   have zr := hdr.size
   have znr := hNr.lt
   have kN : wr.cell? ⟨w1.heap.size, 0, none⟩ = some (.slice A n.length c) := hNr.c1
   have HC : Hid (∀ V, Dr B wr V → V.cell? ⟨w1.heap.size, 0, none⟩ = some (.slice A n.length c)) := fun V hV => (Dr.blk hV hNr b_22).c1
   go_wp2_with fail
   refine wp_region_noPanic ?_
   refine wp_region_held_drew (S := (fun W => W.cell? ⟨w1.heap.size, 0, none⟩ = some (.slice A n.length c))) b_20 ?_ (fun hHeld => ?_)
   ·exact HC.out _ b_1
   refine tkz4 0 3 1 2 ?_
   try simp only [layz]
   refine rz1 4 (fun K hK => ?_)
   go_simp
   go_at_call 58
   refine Calls.mono (C_spec_l1Below _ B 3 b_4 b_21 b_21) ?_
   rintro e w3 ⟨hd3, hc3, y, rfl, hy0, hy1⟩
   have hvy : IntKind.i64.wrap (5 + y) = 5 + y := IntWalk.i64_in _ b_22
   have z3 := hd3.size
   (try simp only [World.size_drew, size_drewN] at z3)
   have E3 : Dr B wr w3 := b_1
   have HG3 := Lib.hid (HGr.out.dr E3 b_22)
   have hO3 := Dr.blk E3 hOr b_22
   have hN3 := Dr.blk E3 hNr b_22
   have kN3 := hN3.c1
   have zN3 := hN3.lt
   have D3 : Dr B w w3 := hdr.trans E3
   clear hd3
   refine hK.out _ _ (HC.out _ b_1) (fun hHeld => ?_)
   clear hK K
   try simp only [layz]
   refine tkz2 5 6 ?_
   try simp only [layz]
   refine wpAnyH_done b_20 ?_ _
   refine NoPanic.normal ?_
   by_cases hlt : (n.length : Int) < 5 + y
   ·set_option maxRecDepth 100000 in go_wp2_with (at_builtin; go_loud (refine wpList_append_grow (e := .str) rfl _ _ 24 rfl (w.heap.size + 1) [w1.heap.size] 9 info_str rfl Tryz.underlying24 (.slice A n.length c) _ n [[42]] rfl rfl b_7 (ASrc.flat rfl b_5) ?_ ?_ ?_ ?_ ?_))
    case refine_1 => intro q hq; simp at hq; subst hq; exact b_16
    case refine_2 => simp only [List.length_singleton]; omega
    case refine_3 => simp only [List.length_singleton]; unfold maxLen; omega
    case refine_4 => exact b_16
    intro v' w' hr' hg'
    have hbl := HG3.out.block
    have hrow : ∀ q, (Value.slice A n.length c).ownBlock = some q → w.heap.size + 1 ≤ q ∧ q ≠ w1.heap.size := fun q hq => ⟨(hbl q hq).1, fun e => (hbl q hq).2.2 (by rw [e]; simp)⟩
    have zg := hg'.size
    (try simp only [World.size_alloc, size_drewN, World.size_drew] at zg)
    have hO4 : Blk w' w.heap.size 26 #[.slice none 0 0] := Blk.grown b_8 hg' (fun e => by have := hrow _ e.symm; omega)
    have hN4 : Blk w' (w1.heap.size) 26 #[.slice A n.length c] := Blk.grown b_8 hg' (fun e => (hrow _ e.symm).2 rfl)
    have D4 : Dr B w w' := Dr.grown b_1 hg' (fun q hq => by have := hrow q hq; omega)
    have C4 : CurT w' B := Cur.grown b_4 hg' (fun q hq => by have := hrow q hq; omega)
    have hA' := Lib.hid (okAny.app hA.out b_22 (show List.length ([42] : List UInt8) ≤ 9 by decide))
    obtain ⟨n', hn'⟩ : ∃ n', n' = n ++ [[42]] := ⟨_, rfl⟩
    rw [← hn'] at hr' hA'
    have hl' := Lib.hid (show n'.length = n.length + 1 by rw [hn', List.length_append, List.length_singleton])
    clear hn'
    obtain ⟨A', c', rfl⟩ := hr'.form
    have HR' := Lib.hid hr'
    clear hr' hg' hbl hrow
    have fN4 : w'.frozen? ⟨w1.heap.size, 0, none⟩ = false := hN4.f1
    have kN4 : w'.cell? ⟨w1.heap.size, 0, none⟩ = some (.slice A n.length c) := hN4.c1
    have zN4 := hN4.lt
    have hN5 : Blk (w'.setCell ⟨w1.heap.size, 0, none⟩ (.slice A' (List.length n') c')) (w1.heap.size) 26 #[.slice A' (List.length n') c'] := hN4.set_ 0 _
    have hO5 : Blk (w'.setCell ⟨w1.heap.size, 0, none⟩ (.slice A' (List.length n') c')) w.heap.size 26 #[.slice none 0 0] := hO4.far b_18 _
    have D5 : Dr B w (w'.setCell ⟨w1.heap.size, 0, none⟩ (.slice A' (List.length n') c')) := Dr.set D4 (.inr b_18) _
    have C5 : CurT (w'.setCell ⟨w1.heap.size, 0, none⟩ (.slice A' (List.length n') c')) B := Cur.far C4 b_18 _
    have HG5 : Hid (GRow .str (w.heap.size + 1) [w1.heap.size] (w'.setCell ⟨w1.heap.size, 0, none⟩ (.slice A' (List.length n') c')) 9 (.slice A' (List.length n') c') n') := Lib.hid (GRow.set HR'.out (.inr b_23) _)
    have hm9 := cellLen_blk hN5
    have hm8 := cellLen_blk hNr
    clear hN4 hO4 D4 C4 kN kN3
    go_wp2
    go_roundw
    case rel => exact ⟨A', c', n', C5, D5, hO5, hN5, HG5.out, hA'.out⟩
    case measure => rw [hm9, hm8, hl'.out]; omega
   ·have kN9 : w3.cell? ⟨w1.heap.size, 0, none⟩ = some (.slice A (List.length n) c) := hN3.c1
    have kO9 : w3.cell? ⟨w.heap.size, 0, none⟩ = some (.slice none 0 0) := hO3.c1
    have fO9 : w3.frozen? ⟨w.heap.size, 0, none⟩ = false := hO3.f1
    have zO9 := hO3.lt
    have zN9 := hN3.lt
    have C9 : CurT (w3.setCell ⟨w.heap.size, 0, none⟩ (.slice A (List.length n) c)) B := Cur.far hc3 b_18 _
    have D9 := Dr.set D3 (p := ⟨w.heap.size, 0, none⟩) (.inr (Nat.le_refl _)) (.slice A (List.length n) c)
    have k9 := (Blk.set_ hO3 0 (.slice A (List.length n) c)).c1
    have Q9 := GRow.set HG3.out (p := ⟨w.heap.size, 0, none⟩) (.inl b_18) (.slice A (List.length n) c)
    go_wp2
    refine bodyPost_ret (v := .agg #[.slice A (List.length n) c]) (by simp [results, Tryz.results53, go_sem, kO9, fO9, zO9]) rfl ?_
    exact ⟨D9, C9, _, n, rfl, Q9.rdI.mono b_22 (Nat.le_refl _) (Nat.le_refl _), hA.out⟩
 ·have q0 : (x == 0) = false := by rw [beq_eq_false_iff_ne]; exact hx.1
  have q1 : (x == 1) = false := by rw [beq_eq_false_iff_ne]; exact hx.2.1
  have q2 : (x == 2) = false := by rw [beq_eq_false_iff_ne]; exact hx.2.2
  have kN9 : w2.cell? ⟨w1.heap.size, 0, none⟩ = some (.slice A (List.length n) c) := hN2.c1
  have kO9 : w2.cell? ⟨w.heap.size, 0, none⟩ = some (.slice none 0 0) := hO2.c1
  have fO9 : w2.frozen? ⟨w.heap.size, 0, none⟩ = false := hO2.f1
  have zO9 := hO2.lt
  have zN9 := hN2.lt
  have C9 : CurT (w2.setCell ⟨w.heap.size, 0, none⟩ (.slice A (List.length n) c)) B := Cur.far hc2 b_18 _
  have D9 := Dr.set D2 (p := ⟨w.heap.size, 0, none⟩) (.inr (Nat.le_refl _)) (.slice A (List.length n) c)
  have k9 := (Blk.set_ hO2 0 (.slice A (List.length n) c)).c1
  have Q9 := GRow.set HG2.out (p := ⟨w.heap.size, 0, none⟩) (.inl b_18) (.slice A (List.length n) c)
  go_wp2
  refine bodyPost_ret (v := .agg #[.slice A (List.length n) c]) (by simp [results, Tryz.results53, go_sem, kO9, fO9, zO9]) rfl ?_
  exact ⟨D9, C9, _, n, rfl, Q9.rdI.mono b_22 (Nat.le_refl _) (Nat.le_refl _), hA.out⟩
end Go.Proofs.YtidnahocnhcoiaaGreatDoor
