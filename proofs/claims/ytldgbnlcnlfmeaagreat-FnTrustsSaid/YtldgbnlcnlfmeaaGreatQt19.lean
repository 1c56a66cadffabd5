/- Texts of this claim, merged by a program: Any. -/
import Derived.Test.YtldgbnlcnlfmeaaGreatQtP
import Derived.Test.YtldgbnlcnlfmeaaGreatQt4
import Derived.Deep.RegionHeld3
namespace Go.Proofs.YtldgbnlcnlfmeaaGreat
open Go.RowKit
set_option linter.unusedVariables false
set_option linter.unusedSimpArgs false
def okAny (n : List (List UInt8)) : Prop := n.length ≤ 7 ∧ ∀ p ∈ n, p.length ≤ 9
theorem okAny.of (n : List (List UInt8)) (h : validName n = true) : okAny n := by
 refine ⟨by have := validName_len h; omega, fun p hp => ?_⟩
 unfold validName at h
 simp only [Bool.and_eq_true] at h
 have := List.all_eq_true.1 h.1 p hp
 unfold validPart at this
 simp only [Bool.and_eq_true, decide_eq_true_eq] at this
 omega
theorem okAny.app {n : List (List UInt8)} (h : okAny n) (hl : n.length ≤ 6) {s : List UInt8} (hs : s.length ≤ 9) : okAny (n ++ [s]) := by
 refine ⟨by simp; omega, fun p hp => ?_⟩
 rcases List.mem_append.1 hp with hp | hp
 ·exact h.2 p hp
 ·simp at hp; subst hp; exact hs
theorem any_bulk {n : List (List UInt8)} (h : okAny n) : Ty.bulk (.sl .str) n ≤ 70 := by
 have : ∀ (n : List (List UInt8)), (∀ p ∈ n, p.length ≤ 9) → Ty.bulk (.sl .str) n ≤ 10 * n.length := by
  intro n
  induction n with
  | nil => intro _; exact Nat.zero_le _
  | cons a l ih =>
   intro h
   have h1 := ih (fun p hp => h p (List.mem_cons_of_mem _ hp))
   have h2 := h a (List.mem_cons_self ..)
   have h3 := bulk_app (e := .str) [a] l
   have h4 := bulk_one (e := .str) a
   have h5 : Ty.bulk .str a = List.length a := rfl
   simp only [List.cons_append, List.nil_append] at h3
   rw [List.length_cons]
   omega
 have := this n h.2
 have := h.1
 omega
theorem rd_drewP {w : World} {t : Ty} {cs : List Value} {x : t.D} (h : t.rd w cs x) : t.rd w.drew cs x := Ty.rd_below (bel_drew (Below.refl _ _)) h
theorem rd_lit1A {w : World} {te : TypeId} {s : List UInt8} {arr : Array Value} {g : Nat} (ha : arr = #[vS s]) (hs : s.length ≤ 9223372036854775807) (hg : g = w.heap.size) : (Ty.sl .str).rd (w.alloc (.cells arr te)) [.slice (some ⟨g, 0, none⟩) 1 1] [s] := by
 subst ha hg
 exact (Row.lit1 flatS w te s hs (Nat.le_refl _)).rd b_31
def cellLen (g : Nat) (W : World) : Nat := lenVd ((W.cell? ⟨g, 0, none⟩).getD (.bool false))
theorem cellLen_blk {w : World} {g n c : Nat} {t : TypeId} {A : Option Addr} (h : Blk w g t #[.slice A n c]) : cellLen g w = n := by
 unfold cellLen; rw [h.c1]; rfl
theorem any6 {s : List UInt8} (h : s ∈ [[], [65], [116, 111, 111, 108, 111, 110, 103, 120, 120], [97, 47, 98], [32], [101, 105, 103, 104, 116, 56, 56, 56]]) : s.length ≤ 9 := by
 simp at h; rcases h with rfl | rfl | rfl | rfl | rfl | rfl <;> decide
set_option maxRecDepth 100000 in
set_option maxHeartbeats 2000000 in
theorem C_spec_l4Any (w : World) (B : Nat) (hc : CurT w B) :
  Calls Tryz.prog 93 #[pB B] w (RetDT B w (DrR (.sl .str) w okAny)) := by
 have hB := hc.lt
 go_enter Tryz.func93, Tryz.ntmps93
 go_wp2_with fail
 refine (C_spec_l4Name _ B b_14).mono ?_
 rintro e w1 ⟨hd1, hc1, v, n, rfl, hR, hV⟩
 have z1 := hd1.size
 simp only [World.size_alloc] at z1
 have D1 : Dr B w w1 := b_5
 have hO1 : Blk w1 w.heap.size 32 #[.slice none 0 0] := Dr.blk hd1 (Blk.new w _ _) b_37
 rw [World.size_alloc] at hR
 have HG := Lib.hid ((GRow.ofRow rfl hR).addEx (g := w1.heap.size) (Nat.le_refl _))
 have hA := Lib.hid (okAny.of n hV)
 have hnl := validName_len hV
 obtain ⟨A, c, rfl⟩ := hR.form
 clear hR
 go_wp2_with fail
 refine (C_spec_l1Below _ B 8 b_14 b_36 b_36).mono ?_
 rintro e w2 ⟨hd2, hc2, x, rfl, hx0, hx1⟩
 have z2 := hd2.size
 simp only [World.size_alloc] at z2
 have E2 : Dr B w1 w2 := b_5
 have D2 := D1.trans E2
 have hO2 := Dr.blk E2 hO1 b_37
 have hN2 : Blk w2 w1.heap.size 32 #[.slice A n.length c] := Dr.blk hd2 (Blk.new w1 _ _) b_37
 have HG2 := Lib.hid (HG.out.dr E2 b_37)
 clear HG hd1 hd2 hO1 E2 D1 hc1
 have zN2 := hN2.lt
 have kN : w2.cell? ⟨w1.heap.size, 0, none⟩ = some (.slice A n.length c) := hN2.c1
 have fN : w2.frozen? ⟨w1.heap.size, 0, none⟩ = false := hN2.f1
 rcases (show x = 0 ∨ x = 1 ∨ (x ≠ 0 ∧ x ≠ 1) by omega) with rfl | rfl | hx
 ·go_wp2_with fail
  refine wp_region_noPanic ?_
  refine wp_region_held_drew (S := (fun _ => True)) b_35 ?_ (fun hHeld => ?_)
  ·trivial
  refine tkz2 0 2 ?_
  try simp only [layz]
  refine rz2 1 3 (fun K hK => ?_) (fun K hK => ?_)
  ·go_simp
   refine hK.out _ _ ?_ (fun hHeld => ?_)
   ·(try dsimp only)
    try trivial
   clear hK K
   try simp only [layz]
   refine rz1 3 (fun K hK => ?_)
   go_simp
   refine hK.out _ _ ?_ (fun hHeld => ?_)
   ·(try dsimp only)
    try trivial
   clear hK K
   try simp only [layz]
   refine rz1 4 (fun K hK => ?_)
   go_simp
   go_at_call 63
   refine (C_spec_l1Str _ B _ [[], [65], [116, 111, 111, 108, 111, 110, 103, 120, 120], [97, 47, 98], [32], [101, 105, 103, 104, 116, 56, 56, 56]] b_14 b_11 b_36 b_36).mono ?_
   rintro e w3 ⟨hd3, hc3, s, hs, rfl⟩
   have z3 := hd3.size
   (try simp only [World.size_alloc, World.size_drew, size_drewN] at z3)
   have hs9 := any6 hs
   have hsl : s.length ≤ 9223372036854775807 := by omega
   have E3 : Dr B w2 w3 := b_5
   have HG3 := Lib.hid (HG2.out.dr E3 b_37)
   have hO3 := Dr.blk E3 hO2 b_37
   have hN3 := Dr.blk E3 hN2 b_37
   have kN3 := hN3.c1
   have zN3 := hN3.lt
   have D3 : Dr B w w3 := D2.trans E3
   clear hs hd3
   refine hK.out _ _ ?_ (fun hHeld => ?_)
   ·(try dsimp only)
    try trivial
   clear hK K
   try simp only [layz]
   refine rz1 5 (fun K hK => ?_)
   go_simp
   refine hK.out _ _ ?_ (fun hHeld => ?_)
   ·(try dsimp only)
    try trivial
   clear hK K
   try simp only [layz]
   refine rz1 6 (fun K hK => ?_)
   refine step_append_grow (e := .str) b_39 _ _ 30 b_39 (w.heap.size + 1) [w1.heap.size] 9 info_str rfl Tryz.underlying30 (.slice A n.length c) _ n [s] b_39 b_39 b_19 (ASrc.flat rfl b_18) ?_ ?_ ?_ ?_ ?_
   ·intro q hq; simp at hq; subst hq; exact b_32
   ·simp only [List.length_singleton]; omega
   ·simp only [List.length_singleton]; unfold maxLen; omega
   ·exact b_32
   intro v' w' hr' hg'
   have hbl := HG3.out.block
   have hrow : ∀ q, (Value.slice A n.length c).ownBlock = some q → w.heap.size + 1 ≤ q ∧ q ≠ w1.heap.size := fun q hq => ⟨(hbl q hq).1, fun e => (hbl q hq).2.2 (by rw [e]; simp)⟩
   have zg := hg'.size
   (try simp only [World.size_alloc, size_drewN, World.size_drew] at zg)
   have hO4 : Blk w' w.heap.size 32 #[.slice none 0 0] := Blk.grown b_20 hg' (fun e => by have := hrow _ e.symm; omega)
   have hN4 : Blk w' w1.heap.size 32 #[.slice A n.length c] := Blk.grown b_20 hg' (fun e => (hrow _ e.symm).2 rfl)
   have D4 : Dr B w w' := Dr.grown b_5 hg' (fun q hq => by have := hrow q hq; omega)
   have C4 : CurT w' B := Cur.grown b_14 hg' (fun q hq => by have := hrow q hq; omega)
   have hA' := Lib.hid (okAny.app hA.out b_37 hs9)
   obtain ⟨n', hn'⟩ : ∃ n', n' = n ++ [s] := ⟨_, rfl⟩
   rw [← hn'] at hr' hA'
   have hl' := Lib.hid (show n'.length = n.length + 1 by rw [hn', List.length_append, List.length_singleton])
   clear hn'
   obtain ⟨A', c', rfl⟩ := hr'.form
   have HR' := Lib.hid hr'
   clear hr' hg' hbl hrow
   have fN4 : w'.frozen? ⟨w1.heap.size, 0, none⟩ = false := hN4.f1
   have kN4 : w'.cell? ⟨w1.heap.size, 0, none⟩ = some (.slice A n.length c) := hN4.c1
   refine hK.out _ _ ?_ (fun hHeld => ?_)
   ·(try dsimp only)
    try trivial
   clear hK K
   try simp only [layz]
   refine tkz 7 ?_
   try simp only [layz]
   refine rz1 8 (fun K hK => ?_)
   go_simp
   obtain ⟨w5, hw5⟩ : ∃ w5, w5 = w'.setCell ⟨w1.heap.size, 0, none⟩ (.slice A' (List.length n') c') := ⟨_, rfl⟩
   rw [← hw5]
   have hN5 : Blk w5 w1.heap.size 32 #[.slice A' (List.length n') c'] := by rw [hw5]; exact hN4.set_ 0 _
   have hO5 : Blk w5 w.heap.size 32 #[.slice none 0 0] := by rw [hw5]; exact hO4.far b_34 _
   have D5 : Dr B w w5 := by rw [hw5]; exact Dr.set D4 (.inr b_34) _
   have C5 : CurT w5 B := by rw [hw5]; exact Cur.far C4 b_34 _
   have HG5 : Hid (GRow .str (w.heap.size + 1) [w1.heap.size] w5 9 (.slice A' (List.length n') c') n') := by rw [hw5]; exact Lib.hid (GRow.set HR'.out (.inr b_38) _)
   clear hw5 hN4 hO4 D4 C4 HR' fN4 kN4
   have zn5 := hN5.lt
   refine hK.out _ _ ?_ (fun hHeld => ?_)
   ·(try dsimp only)
    try trivial
   clear hK K
   try simp only [layz]
   refine wpAnyH_done b_35 ?_ _
   refine NoPanic.normal ?_
   have kN9 : w5.cell? ⟨w1.heap.size, 0, none⟩ = some (.slice A' (List.length n') c') := hN5.c1
   have kO9 : w5.cell? ⟨w.heap.size, 0, none⟩ = some (.slice none 0 0) := hO5.c1
   have fO9 : w5.frozen? ⟨w.heap.size, 0, none⟩ = false := hO5.f1
   have zO9 := hO5.lt
   have C9 : CurT (w5.setCell ⟨w.heap.size, 0, none⟩ (.slice A' (List.length n') c')) B := Cur.far C5 b_34 _
   have D9 := Dr.set D5 (p := ⟨w.heap.size, 0, none⟩) (.inr (Nat.le_refl _)) (.slice A' (List.length n') c')
   have k9 := (Blk.set_ hO5 0 (.slice A' (List.length n') c')).c1
   have Q9 := (GRow.set HG5.out (p := ⟨w.heap.size, 0, none⟩) (.inl b_34) (.slice A' (List.length n') c')).rdI
   go_wp2_with fail
   refine bodyPost_ret (v := .agg #[.slice A' (List.length n') c']) (by simp [results, Tryz.results93, go_sem, kO9, fO9, zO9]) rfl ?_
   exact ⟨D9, C9, _, n', rfl, Q9.mono b_37 (Nat.le_refl _) (Nat.le_refl _), hA'.out⟩
  ·go_simp
   refine hK.out _ _ ?_ (fun hHeld => ?_)
   ·(try dsimp only)
    try trivial
   clear hK K
   try simp only [layz]
   refine rz2 1 4 (fun K hK => ?_) (fun K hK => ?_)
   ·go_simp
    refine hK.out _ _ ?_ (fun hHeld => ?_)
    ·(try dsimp only)
     try trivial
    clear hK K
    try simp only [layz]
    refine rz1 4 (fun K hK => ?_)
    go_simp
    go_at_call 63
    refine (C_spec_l1Str _ B _ [[], [65], [116, 111, 111, 108, 111, 110, 103, 120, 120], [97, 47, 98], [32], [101, 105, 103, 104, 116, 56, 56, 56]] b_14 b_11 b_36 b_36).mono ?_
    rintro e w3 ⟨hd3, hc3, s, hs, rfl⟩
    have z3 := hd3.size
    (try simp only [World.size_alloc, World.size_drew, size_drewN] at z3)
    have hs9 := any6 hs
    have hsl : s.length ≤ 9223372036854775807 := by omega
    have E3 : Dr B w2 w3 := b_5
    have HG3 := Lib.hid (HG2.out.dr E3 b_37)
    have hO3 := Dr.blk E3 hO2 b_37
    have hN3 := Dr.blk E3 hN2 b_37
    have kN3 := hN3.c1
    have zN3 := hN3.lt
    have D3 : Dr B w w3 := D2.trans E3
    clear hs hd3
    refine hK.out _ _ ?_ (fun hHeld => ?_)
    ·(try dsimp only)
     try trivial
    clear hK K
    try simp only [layz]
    refine rz1 5 (fun K hK => ?_)
    go_simp
    refine hK.out _ _ ?_ (fun hHeld => ?_)
    ·(try dsimp only)
     try trivial
    clear hK K
    try simp only [layz]
    refine rz1 6 (fun K hK => ?_)
    refine step_append_grow (e := .str) b_39 _ _ 30 b_39 (w.heap.size + 1) [w1.heap.size] 9 info_str rfl Tryz.underlying30 (.slice A n.length c) _ n [s] b_39 b_39 b_19 (ASrc.flat rfl b_18) ?_ ?_ ?_ ?_ ?_
    ·intro q hq; simp at hq; subst hq; exact b_32
    ·simp only [List.length_singleton]; omega
    ·simp only [List.length_singleton]; unfold maxLen; omega
    ·exact b_32
    intro v' w' hr' hg'
    have hbl := HG3.out.block
    have hrow : ∀ q, (Value.slice A n.length c).ownBlock = some q → w.heap.size + 1 ≤ q ∧ q ≠ w1.heap.size := fun q hq => ⟨(hbl q hq).1, fun e => (hbl q hq).2.2 (by rw [e]; simp)⟩
    have zg := hg'.size
    (try simp only [World.size_alloc, size_drewN, World.size_drew] at zg)
    have hO4 : Blk w' w.heap.size 32 #[.slice none 0 0] := Blk.grown b_20 hg' (fun e => by have := hrow _ e.symm; omega)
    have hN4 : Blk w' w1.heap.size 32 #[.slice A n.length c] := Blk.grown b_20 hg' (fun e => (hrow _ e.symm).2 rfl)
    have D4 : Dr B w w' := Dr.grown b_5 hg' (fun q hq => by have := hrow q hq; omega)
    have C4 : CurT w' B := Cur.grown b_14 hg' (fun q hq => by have := hrow q hq; omega)
    have hA' := Lib.hid (okAny.app hA.out b_37 hs9)
    obtain ⟨n', hn'⟩ : ∃ n', n' = n ++ [s] := ⟨_, rfl⟩
    rw [← hn'] at hr' hA'
    have hl' := Lib.hid (show n'.length = n.length + 1 by rw [hn', List.length_append, List.length_singleton])
    clear hn'
    obtain ⟨A', c', rfl⟩ := hr'.form
    have HR' := Lib.hid hr'
    clear hr' hg' hbl hrow
    have fN4 : w'.frozen? ⟨w1.heap.size, 0, none⟩ = false := hN4.f1
    have kN4 : w'.cell? ⟨w1.heap.size, 0, none⟩ = some (.slice A n.length c) := hN4.c1
    refine hK.out _ _ ?_ (fun hHeld => ?_)
    ·(try dsimp only)
     try trivial
    clear hK K
    try simp only [layz]
    refine tkz 7 ?_
    try simp only [layz]
    refine rz1 8 (fun K hK => ?_)
    go_simp
    obtain ⟨w5, hw5⟩ : ∃ w5, w5 = w'.setCell ⟨w1.heap.size, 0, none⟩ (.slice A' (List.length n') c') := ⟨_, rfl⟩
    rw [← hw5]
    have hN5 : Blk w5 w1.heap.size 32 #[.slice A' (List.length n') c'] := by rw [hw5]; exact hN4.set_ 0 _
    have hO5 : Blk w5 w.heap.size 32 #[.slice none 0 0] := by rw [hw5]; exact hO4.far b_34 _
    have D5 : Dr B w w5 := by rw [hw5]; exact Dr.set D4 (.inr b_34) _
    have C5 : CurT w5 B := by rw [hw5]; exact Cur.far C4 b_34 _
    have HG5 : Hid (GRow .str (w.heap.size + 1) [w1.heap.size] w5 9 (.slice A' (List.length n') c') n') := by rw [hw5]; exact Lib.hid (GRow.set HR'.out (.inr b_38) _)
    clear hw5 hN4 hO4 D4 C4 HR' fN4 kN4
    have zn5 := hN5.lt
    refine hK.out _ _ ?_ (fun hHeld => ?_)
    ·(try dsimp only)
     try trivial
    clear hK K
    try simp only [layz]
    refine wpAnyH_done b_35 ?_ _
    refine NoPanic.normal ?_
    have kN9 : w5.cell? ⟨w1.heap.size, 0, none⟩ = some (.slice A' (List.length n') c') := hN5.c1
    have kO9 : w5.cell? ⟨w.heap.size, 0, none⟩ = some (.slice none 0 0) := hO5.c1
    have fO9 : w5.frozen? ⟨w.heap.size, 0, none⟩ = false := hO5.f1
    have zO9 := hO5.lt
    have C9 : CurT (w5.setCell ⟨w.heap.size, 0, none⟩ (.slice A' (List.length n') c')) B := Cur.far C5 b_34 _
    have D9 := Dr.set D5 (p := ⟨w.heap.size, 0, none⟩) (.inr (Nat.le_refl _)) (.slice A' (List.length n') c')
    have k9 := (Blk.set_ hO5 0 (.slice A' (List.length n') c')).c1
    have Q9 := (GRow.set HG5.out (p := ⟨w.heap.size, 0, none⟩) (.inl b_34) (.slice A' (List.length n') c')).rdI
    go_wp2_with fail
    refine bodyPost_ret (v := .agg #[.slice A' (List.length n') c']) (by simp [results, Tryz.results93, go_sem, kO9, fO9, zO9]) rfl ?_
    exact ⟨D9, C9, _, n', rfl, Q9.mono b_37 (Nat.le_refl _) (Nat.le_refl _), hA'.out⟩
   ·go_simp
    go_at_call 63
    refine (C_spec_l1Str _ B _ [[], [65], [116, 111, 111, 108, 111, 110, 103, 120, 120], [97, 47, 98], [32], [101, 105, 103, 104, 116, 56, 56, 56]] b_14 b_11 b_36 b_36).mono ?_
    rintro e w3 ⟨hd3, hc3, s, hs, rfl⟩
    have z3 := hd3.size
    (try simp only [World.size_alloc, World.size_drew, size_drewN] at z3)
    have hs9 := any6 hs
    have hsl : s.length ≤ 9223372036854775807 := by omega
    have E3 : Dr B w2 w3 := b_5
    have HG3 := Lib.hid (HG2.out.dr E3 b_37)
    have hO3 := Dr.blk E3 hO2 b_37
    have hN3 := Dr.blk E3 hN2 b_37
    have kN3 := hN3.c1
    have zN3 := hN3.lt
    have D3 : Dr B w w3 := D2.trans E3
    clear hs hd3
    refine hK.out _ _ ?_ (fun hHeld => ?_)
    ·(try dsimp only)
     try trivial
    clear hK K
    try simp only [layz]
    refine rz2 1 5 (fun K hK => ?_) (fun K hK => ?_)
    ·go_simp
     refine hK.out _ _ ?_ (fun hHeld => ?_)
     ·(try dsimp only)
      try trivial
     clear hK K
     try simp only [layz]
     refine rz1 5 (fun K hK => ?_)
     go_simp
     refine hK.out _ _ ?_ (fun hHeld => ?_)
     ·(try dsimp only)
      try trivial
     clear hK K
     try simp only [layz]
     refine rz1 6 (fun K hK => ?_)
     refine step_append_grow (e := .str) b_39 _ _ 30 b_39 (w.heap.size + 1) [w1.heap.size] 9 info_str rfl Tryz.underlying30 (.slice A n.length c) _ n [s] b_39 b_39 b_19 (ASrc.flat rfl b_18) ?_ ?_ ?_ ?_ ?_
     ·intro q hq; simp at hq; subst hq; exact b_32
     ·simp only [List.length_singleton]; omega
     ·simp only [List.length_singleton]; unfold maxLen; omega
     ·exact b_32
     intro v' w' hr' hg'
     have hbl := HG3.out.block
     have hrow : ∀ q, (Value.slice A n.length c).ownBlock = some q → w.heap.size + 1 ≤ q ∧ q ≠ w1.heap.size := fun q hq => ⟨(hbl q hq).1, fun e => (hbl q hq).2.2 (by rw [e]; simp)⟩
     have zg := hg'.size
     (try simp only [World.size_alloc, size_drewN, World.size_drew] at zg)
     have hO4 : Blk w' w.heap.size 32 #[.slice none 0 0] := Blk.grown b_20 hg' (fun e => by have := hrow _ e.symm; omega)
     have hN4 : Blk w' w1.heap.size 32 #[.slice A n.length c] := Blk.grown b_20 hg' (fun e => (hrow _ e.symm).2 rfl)
     have D4 : Dr B w w' := Dr.grown b_5 hg' (fun q hq => by have := hrow q hq; omega)
     have C4 : CurT w' B := Cur.grown b_14 hg' (fun q hq => by have := hrow q hq; omega)
     have hA' := Lib.hid (okAny.app hA.out b_37 hs9)
     obtain ⟨n', hn'⟩ : ∃ n', n' = n ++ [s] := ⟨_, rfl⟩
     rw [← hn'] at hr' hA'
     have hl' := Lib.hid (show n'.length = n.length + 1 by rw [hn', List.length_append, List.length_singleton])
     clear hn'
     obtain ⟨A', c', rfl⟩ := hr'.form
     have HR' := Lib.hid hr'
     clear hr' hg' hbl hrow
     have fN4 : w'.frozen? ⟨w1.heap.size, 0, none⟩ = false := hN4.f1
     have kN4 : w'.cell? ⟨w1.heap.size, 0, none⟩ = some (.slice A n.length c) := hN4.c1
     refine hK.out _ _ ?_ (fun hHeld => ?_)
     ·(try dsimp only)
      try trivial
     clear hK K
     try simp only [layz]
     refine tkz 7 ?_
     try simp only [layz]
     refine rz1 8 (fun K hK => ?_)
     go_simp
     obtain ⟨w5, hw5⟩ : ∃ w5, w5 = w'.setCell ⟨w1.heap.size, 0, none⟩ (.slice A' (List.length n') c') := ⟨_, rfl⟩
     rw [← hw5]
     have hN5 : Blk w5 w1.heap.size 32 #[.slice A' (List.length n') c'] := by rw [hw5]; exact hN4.set_ 0 _
     have hO5 : Blk w5 w.heap.size 32 #[.slice none 0 0] := by rw [hw5]; exact hO4.far b_34 _
     have D5 : Dr B w w5 := by rw [hw5]; exact Dr.set D4 (.inr b_34) _
     have C5 : CurT w5 B := by rw [hw5]; exact Cur.far C4 b_34 _
     have HG5 : Hid (GRow .str (w.heap.size + 1) [w1.heap.size] w5 9 (.slice A' (List.length n') c') n') := by rw [hw5]; exact Lib.hid (GRow.set HR'.out (.inr b_38) _)
     clear hw5 hN4 hO4 D4 C4 HR' fN4 kN4
     have zn5 := hN5.lt
     refine hK.out _ _ ?_ (fun hHeld => ?_)
     ·(try dsimp only)
      try trivial
     clear hK K
     try simp only [layz]
     refine wpAnyH_done b_35 ?_ _
     refine NoPanic.normal ?_
     have kN9 : w5.cell? ⟨w1.heap.size, 0, none⟩ = some (.slice A' (List.length n') c') := hN5.c1
     have kO9 : w5.cell? ⟨w.heap.size, 0, none⟩ = some (.slice none 0 0) := hO5.c1
     have fO9 : w5.frozen? ⟨w.heap.size, 0, none⟩ = false := hO5.f1
     have zO9 := hO5.lt
     have C9 : CurT (w5.setCell ⟨w.heap.size, 0, none⟩ (.slice A' (List.length n') c')) B := Cur.far C5 b_34 _
     have D9 := Dr.set D5 (p := ⟨w.heap.size, 0, none⟩) (.inr (Nat.le_refl _)) (.slice A' (List.length n') c')
     have k9 := (Blk.set_ hO5 0 (.slice A' (List.length n') c')).c1
     have Q9 := (GRow.set HG5.out (p := ⟨w.heap.size, 0, none⟩) (.inl b_34) (.slice A' (List.length n') c')).rdI
     go_wp2_with fail
     refine bodyPost_ret (v := .agg #[.slice A' (List.length n') c']) (by simp [results, Tryz.results93, go_sem, kO9, fO9, zO9]) rfl ?_
     exact ⟨D9, C9, _, n', rfl, Q9.mono b_37 (Nat.le_refl _) (Nat.le_refl _), hA'.out⟩
    ·go_simp
     refine hK.out _ _ ?_ (fun hHeld => ?_)
     ·(try dsimp only)
      try trivial
     clear hK K
     try simp only [layz]
     refine rz1 1 (fun K hK => ?_)
     go_simp
     refine hK.out _ _ ?_ (fun hHeld => ?_)
     ·(try dsimp only)
      try trivial
     clear hK K
     try simp only [layz]
     refine rz1 6 (fun K hK => ?_)
     refine step_append_grow (e := .str) b_39 _ _ 30 b_39 (w.heap.size + 1) [w1.heap.size] 9 info_str rfl Tryz.underlying30 (.slice A n.length c) _ n [s] b_39 b_39 b_19 (ASrc.flat rfl b_18) ?_ ?_ ?_ ?_ ?_
     ·intro q hq; simp at hq; subst hq; exact b_32
     ·simp only [List.length_singleton]; omega
     ·simp only [List.length_singleton]; unfold maxLen; omega
     ·exact b_32
     intro v' w' hr' hg'
     have hbl := HG3.out.block
     have hrow : ∀ q, (Value.slice A n.length c).ownBlock = some q → w.heap.size + 1 ≤ q ∧ q ≠ w1.heap.size := fun q hq => ⟨(hbl q hq).1, fun e => (hbl q hq).2.2 (by rw [e]; simp)⟩
     have zg := hg'.size
     (try simp only [World.size_alloc, size_drewN, World.size_drew] at zg)
     have hO4 : Blk w' w.heap.size 32 #[.slice none 0 0] := Blk.grown b_20 hg' (fun e => by have := hrow _ e.symm; omega)
     have hN4 : Blk w' w1.heap.size 32 #[.slice A n.length c] := Blk.grown b_20 hg' (fun e => (hrow _ e.symm).2 rfl)
     have D4 : Dr B w w' := Dr.grown b_5 hg' (fun q hq => by have := hrow q hq; omega)
     have C4 : CurT w' B := Cur.grown b_14 hg' (fun q hq => by have := hrow q hq; omega)
     have hA' := Lib.hid (okAny.app hA.out b_37 hs9)
     obtain ⟨n', hn'⟩ : ∃ n', n' = n ++ [s] := ⟨_, rfl⟩
     rw [← hn'] at hr' hA'
     have hl' := Lib.hid (show n'.length = n.length + 1 by rw [hn', List.length_append, List.length_singleton])
     clear hn'
     obtain ⟨A', c', rfl⟩ := hr'.form
     have HR' := Lib.hid hr'
     clear hr' hg' hbl hrow
     have fN4 : w'.frozen? ⟨w1.heap.size, 0, none⟩ = false := hN4.f1
     have kN4 : w'.cell? ⟨w1.heap.size, 0, none⟩ = some (.slice A n.length c) := hN4.c1
     refine hK.out _ _ ?_ (fun hHeld => ?_)
     ·(try dsimp only)
      try trivial
     clear hK K
     try simp only [layz]
     refine tkz 7 ?_
     try simp only [layz]
     refine rz1 8 (fun K hK => ?_)
     go_simp
     obtain ⟨w5, hw5⟩ : ∃ w5, w5 = w'.setCell ⟨w1.heap.size, 0, none⟩ (.slice A' (List.length n') c') := ⟨_, rfl⟩
     rw [← hw5]
     have hN5 : Blk w5 w1.heap.size 32 #[.slice A' (List.length n') c'] := by rw [hw5]; exact hN4.set_ 0 _
     have hO5 : Blk w5 w.heap.size 32 #[.slice none 0 0] := by rw [hw5]; exact hO4.far b_34 _
     have D5 : Dr B w w5 := by rw [hw5]; exact Dr.set D4 (.inr b_34) _
     have C5 : CurT w5 B := by rw [hw5]; exact Cur.far C4 b_34 _
     have HG5 : Hid (GRow .str (w.heap.size + 1) [w1.heap.size] w5 9 (.slice A' (List.length n') c') n') := by rw [hw5]; exact Lib.hid (GRow.set HR'.out (.inr b_38) _)
     clear hw5 hN4 hO4 D4 C4 HR' fN4 kN4
     have zn5 := hN5.lt
     refine hK.out _ _ ?_ (fun hHeld => ?_)
     ·(try dsimp only)
      try trivial
     clear hK K
     try simp only [layz]
     refine wpAnyH_done b_35 ?_ _
     refine NoPanic.normal ?_
     have kN9 : w5.cell? ⟨w1.heap.size, 0, none⟩ = some (.slice A' (List.length n') c') := hN5.c1
     have kO9 : w5.cell? ⟨w.heap.size, 0, none⟩ = some (.slice none 0 0) := hO5.c1
     have fO9 : w5.frozen? ⟨w.heap.size, 0, none⟩ = false := hO5.f1
     have zO9 := hO5.lt
     have C9 : CurT (w5.setCell ⟨w.heap.size, 0, none⟩ (.slice A' (List.length n') c')) B := Cur.far C5 b_34 _
     have D9 := Dr.set D5 (p := ⟨w.heap.size, 0, none⟩) (.inr (Nat.le_refl _)) (.slice A' (List.length n') c')
     have k9 := (Blk.set_ hO5 0 (.slice A' (List.length n') c')).c1
     have Q9 := (GRow.set HG5.out (p := ⟨w.heap.size, 0, none⟩) (.inl b_34) (.slice A' (List.length n') c')).rdI
     go_wp2_with fail
     refine bodyPost_ret (v := .agg #[.slice A' (List.length n') c']) (by simp [results, Tryz.results93, go_sem, kO9, fO9, zO9]) rfl ?_
     exact ⟨D9, C9, _, n', rfl, Q9.mono b_37 (Nat.le_refl _) (Nat.le_refl _), hA'.out⟩
 ·go_wp2
  go_loopw [] (fun wr => ∃ (A : Option Addr) (c : Nat) (n : List (List UInt8)), CurT wr B ∧ Dr B w wr ∧ Blk wr w.heap.size 32 #[.slice none 0 0] ∧ Blk wr w1.heap.size 32 #[.slice A n.length c] ∧ GRow .str (w.heap.size + 1) [w1.heap.size] wr 9 (.slice A n.length c) n ∧ okAny n) (fun wr => 7 - cellLen w1.heap.size wr)
  case atStart => exact ⟨A, c, n, hc2, D2, hO2, hN2, HG2.out, hA.out⟩
  case round =>
   obtain ⟨A, c, n, hcr, hdr, hOr, hNr, hGr, hAr⟩ := hrel
   have HGr := Lib.hid hGr
   have hA := Lib.hid hAr
   clear hGr hAr HG2 hO2 hN2 kN fN hc2
   have zr := hdr.size
   have znr := hNr.lt
   have kN : wr.cell? ⟨w1.heap.size, 0, none⟩ = some (.slice A n.length c) := hNr.c1
   have HC : Hid (∀ V, Dr B wr V → V.cell? ⟨w1.heap.size, 0, none⟩ = some (.slice A n.length c)) := fun V hV => (Dr.blk hV hNr b_37).c1
   go_wp2_with fail
   refine wp_region_noPanic ?_
   refine wp_region_held_drew (S := (fun W => W.cell? ⟨w1.heap.size, 0, none⟩ = some (.slice A n.length c))) b_35 ?_ (fun hHeld => ?_)
   ·exact HC.out _ b_5
   refine tkz4 0 3 1 2 ?_
   try simp only [layz]
   refine rz1 4 (fun K hK => ?_)
   go_simp
   go_at_call 95
   refine (C_spec_l1Below _ B 3 b_14 b_36 b_36).mono ?_
   rintro e w3 ⟨hd3, hc3, y, rfl, hy0, hy1⟩
   have hvy : IntKind.i64.wrap (5 + y) = 5 + y := IntWalk.i64_in _ b_37
   have z3 := hd3.size
   (try simp only [World.size_drew, size_drewN] at z3)
   have E3 : Dr B wr w3 := b_5
   have HG3 := Lib.hid (HGr.out.dr E3 b_37)
   have hO3 := Dr.blk E3 hOr b_37
   have hN3 := Dr.blk E3 hNr b_37
   have kN3 := hN3.c1
   have zN3 := hN3.lt
   have D3 : Dr B w w3 := hdr.trans E3
   clear hd3
   refine hK.out _ _ (HC.out _ b_5) (fun hHeld => ?_)
   clear hK K
   try simp only [layz]
   refine tkz2 5 6 ?_
   try simp only [layz]
   refine wpAnyH_done b_35 ?_ _
   refine NoPanic.normal ?_
   by_cases hlt : (n.length : Int) < 5 + y
   ·set_option maxRecDepth 100000 in go_wp2_with (at_builtin; go_loud (refine wpList_append_grow (e := .str) rfl _ _ 30 rfl (w.heap.size + 1) [w1.heap.size] 9 info_str rfl Tryz.underlying30 (.slice A n.length c) _ n [[109]] rfl rfl b_19 (ASrc.flat rfl b_17) ?_ ?_ ?_ ?_ ?_))
    case refine_1 => intro q hq; simp at hq; subst hq; exact b_32
    case refine_2 => simp only [List.length_singleton]; omega
    case refine_3 => simp only [List.length_singleton]; unfold maxLen; omega
    case refine_4 => exact b_32
    intro v' w' hr' hg'
    have hbl := HG3.out.block
    have hrow : ∀ q, (Value.slice A n.length c).ownBlock = some q → w.heap.size + 1 ≤ q ∧ q ≠ w1.heap.size := fun q hq => ⟨(hbl q hq).1, fun e => (hbl q hq).2.2 (by rw [e]; simp)⟩
    have zg := hg'.size
    (try simp only [World.size_alloc, size_drewN, World.size_drew] at zg)
    have hO4 : Blk w' w.heap.size 32 #[.slice none 0 0] := Blk.grown b_20 hg' (fun e => by have := hrow _ e.symm; omega)
    have hN4 : Blk w' w1.heap.size 32 #[.slice A n.length c] := Blk.grown b_20 hg' (fun e => (hrow _ e.symm).2 rfl)
    have D4 : Dr B w w' := Dr.grown b_5 hg' (fun q hq => by have := hrow q hq; omega)
    have C4 : CurT w' B := Cur.grown b_14 hg' (fun q hq => by have := hrow q hq; omega)
    have hA' := Lib.hid (okAny.app hA.out b_37 (show List.length ([109] : List UInt8) ≤ 9 by decide))
    obtain ⟨n', hn'⟩ : ∃ n', n' = n ++ [[109]] := ⟨_, rfl⟩
    rw [← hn'] at hr' hA'
    have hl' := Lib.hid (show n'.length = n.length + 1 by rw [hn', List.length_append, List.length_singleton])
    clear hn'
    obtain ⟨A', c', rfl⟩ := hr'.form
    have HR' := Lib.hid hr'
    clear hr' hg' hbl hrow
    have fN4 : w'.frozen? ⟨w1.heap.size, 0, none⟩ = false := hN4.f1
    have kN4 : w'.cell? ⟨w1.heap.size, 0, none⟩ = some (.slice A n.length c) := hN4.c1
    have hN5 : Blk (w'.setCell ⟨w1.heap.size, 0, none⟩ (.slice A' (List.length n') c')) w1.heap.size 32 #[.slice A' (List.length n') c'] := hN4.set_ 0 _
    have hO5 : Blk (w'.setCell ⟨w1.heap.size, 0, none⟩ (.slice A' (List.length n') c')) w.heap.size 32 #[.slice none 0 0] := hO4.far b_34 _
    have D5 : Dr B w (w'.setCell ⟨w1.heap.size, 0, none⟩ (.slice A' (List.length n') c')) := Dr.set D4 (.inr b_34) _
    have C5 : CurT (w'.setCell ⟨w1.heap.size, 0, none⟩ (.slice A' (List.length n') c')) B := Cur.far C4 b_34 _
    have HG5 : Hid (GRow .str (w.heap.size + 1) [w1.heap.size] (w'.setCell ⟨w1.heap.size, 0, none⟩ (.slice A' (List.length n') c')) 9 (.slice A' (List.length n') c') n') := Lib.hid (GRow.set HR'.out (.inr b_38) _)
    have hm9 := cellLen_blk hN5
    have hm8 := cellLen_blk hNr
    have zN4 := hN4.lt
    clear hN4 hO4 D4 C4 kN kN3
    go_wp2
    go_roundw
    case rel => exact ⟨A', c', n', C5, D5, hO5, hN5, HG5.out, hA'.out⟩
    case measure => rw [hm9, hm8, hl'.out]; omega
   ·have kN9 : w3.cell? ⟨w1.heap.size, 0, none⟩ = some (.slice A (List.length n) c) := hN3.c1
    have kO9 : w3.cell? ⟨w.heap.size, 0, none⟩ = some (.slice none 0 0) := hO3.c1
    have fO9 : w3.frozen? ⟨w.heap.size, 0, none⟩ = false := hO3.f1
    have zO9 := hO3.lt
    have C9 : CurT (w3.setCell ⟨w.heap.size, 0, none⟩ (.slice A (List.length n) c)) B := Cur.far hc3 b_34 _
    have D9 := Dr.set D3 (p := ⟨w.heap.size, 0, none⟩) (.inr (Nat.le_refl _)) (.slice A (List.length n) c)
    have k9 := (Blk.set_ hO3 0 (.slice A (List.length n) c)).c1
    have Q9 := (GRow.set HG3.out (p := ⟨w.heap.size, 0, none⟩) (.inl b_34) (.slice A (List.length n) c)).rdI
    go_wp2
    refine bodyPost_ret (v := .agg #[.slice A (List.length n) c]) (by simp [results, Tryz.results93, go_sem, kO9, fO9, zO9]) rfl ?_
    exact ⟨D9, C9, _, n, rfl, Q9.mono b_37 (Nat.le_refl _) (Nat.le_refl _), hA.out⟩
 ·have q0 : (x == 0) = false := by rw [beq_eq_false_iff_ne]; exact hx.1
  have q1 : (x == 1) = false := by rw [beq_eq_false_iff_ne]; exact hx.2
  have kN9 : w2.cell? ⟨w1.heap.size, 0, none⟩ = some (.slice A (List.length n) c) := hN2.c1
  have kO9 : w2.cell? ⟨w.heap.size, 0, none⟩ = some (.slice none 0 0) := hO2.c1
  have fO9 : w2.frozen? ⟨w.heap.size, 0, none⟩ = false := hO2.f1
  have zO9 := hO2.lt
  have C9 : CurT (w2.setCell ⟨w.heap.size, 0, none⟩ (.slice A (List.length n) c)) B := Cur.far hc2 b_34 _
  have D9 := Dr.set D2 (p := ⟨w.heap.size, 0, none⟩) (.inr (Nat.le_refl _)) (.slice A (List.length n) c)
  have k9 := (Blk.set_ hO2 0 (.slice A (List.length n) c)).c1
  have Q9 := (GRow.set HG2.out (p := ⟨w.heap.size, 0, none⟩) (.inl b_34) (.slice A (List.length n) c)).rdI
  go_wp2
  refine bodyPost_ret (v := .agg #[.slice A (List.length n) c]) (by simp [results, Tryz.results93, go_sem, kO9, fO9, zO9]) rfl ?_
  exact ⟨D9, C9, _, n, rfl, Q9.mono b_37 (Nat.le_refl _) (Nat.le_refl _), hA.out⟩
end Go.Proofs.YtldgbnlcnlfmeaaGreat
