/- Texts of this claim, merged by a program: Any Bdr Enc Apn Kdg. -/
import Derived.Test.YtldgbnlcnlfmeaaQcP
import Derived.Test.YtldgbnlcnlfmeaaQc10
import Derived.Test.YtldgbnlcnlfmeaaQc9
import Derived.Deep.RegionHeld3
import Derived.Test.YtldgbnlcnlfmeaaQc1
import Derived.Laws.IdiomStrings
import Derived.Test.YtldgbnlcnlfmeaaQc5
namespace Go.Proofs.Ytldgbnlcnlfmeaa
open Go.RowKit
set_option linter.unusedVariables false
set_option linter.unusedSimpArgs false
def okAny (n : List (List UInt8)) : Prop := n.length ≤ 7 ∧ ∀ p ∈ n, p.length ≤ 9
theorem okAny.of (n : List (List UInt8)) (h : validName n = true) : okAny n := by
 refine ⟨by have := validName_len h; omega, fun p hp => ?_⟩
 unfold validName at h
 simp only [Bool.and_eq_true] at h
 have := List.all_eq_true.1 h.1 p hp
 unfold validPart at this
 simp only [Bool.and_eq_true, decide_eq_true_eq] at this
 omega
theorem okAny.app {n : List (List UInt8)} (h : okAny n) (hl : n.length ≤ 6) {s : List UInt8} (hs : s.length ≤ 9) : okAny (n ++ [s]) := by
 refine ⟨by simp; omega, fun p hp => ?_⟩
 rcases List.mem_append.1 hp with hp | hp
 ·exact h.2 p hp
 ·simp at hp; subst hp; exact hs
theorem any_bulk {n : List (List UInt8)} (h : okAny n) : Ty.bulk (.sl .str) n ≤ 70 := by
 have : ∀ (n : List (List UInt8)), (∀ p ∈ n, p.length ≤ 9) → Ty.bulk (.sl .str) n ≤ 10 * n.length := by
  intro n
  induction n with
  | nil => intro _; exact Nat.zero_le _
  | cons a l ih =>
   intro h
   have h1 := ih (fun p hp => h p (List.mem_cons_of_mem _ hp))
   have h2 := h a (List.mem_cons_self ..)
   have h3 := bulk_app (e := .str) [a] l
   have h4 := bulk_one (e := .str) a
   have h5 : Ty.bulk .str a = List.length a := rfl
   simp only [List.cons_append, List.nil_append] at h3
   rw [List.length_cons]
   omega
 have := this n h.2
 have := h.1
 omega
theorem rd_drewP {w : World} {t : Ty} {cs : List Value} {x : t.D} (h : t.rd w cs x) : t.rd w.drew cs x := Ty.rd_below (bel_drew (Below.refl _ _)) h
theorem rd_lit1A {w : World} {te : TypeId} {s : List UInt8} {arr : Array Value} {g : Nat} (ha : arr = #[vS s]) (hs : s.length ≤ 9223372036854775807) (hg : g = w.heap.size) : (Ty.sl .str).rd (w.alloc (.cells arr te)) [.slice (some ⟨g, 0, none⟩) 1 1] [s] := by
 subst ha hg
 exact (Row.lit1 flatS w te s hs (Nat.le_refl _)).rd (by rw [World.size_alloc]; omega)
def cellLen (g : Nat) (W : World) : Nat := lenVd ((W.cell? ⟨g, 0, none⟩).getD (.bool false))
theorem cellLen_blk {w : World} {g n c : Nat} {t : TypeId} {A : Option Addr} (h : Blk w g t #[.slice A n c]) : cellLen g w = n := by
 unfold cellLen; rw [h.c1]; rfl
theorem any6 {s : List UInt8} (h : s ∈ [[], [65], [116, 111, 111, 108, 111, 110, 103, 120, 120], [97, 47, 98], [32], [101, 105, 103, 104, 116, 56, 56, 56]]) : s.length ≤ 9 := by
 simp at h; rcases h with rfl | rfl | rfl | rfl | rfl | rfl <;> decide
set_option maxRecDepth 100000 in
set_option maxHeartbeats 2000000 in
theorem C_spec_l4Any (w : World) (B : Nat) (hc : CurT w B) :
  Calls Try.prog 155 #[pB B] w (RetDT B w (DrR (.sl .str) w okAny)) := by
 have hB := hc.lt
 go_enter Try.func155, Try.ntmps155
 go_wp2_with fail
 refine (C_spec_l4Name _ B b_9).mono ?_
 rintro e w1 ⟨hd1, hc1, v, n, rfl, hR, hV⟩
 have z1 := hd1.size
 simp only [World.size_alloc] at z1
 have D1 : Dr B w w1 := b_3
 have hO1 : Blk w1 w.heap.size 27 #[.slice none 0 0] := Dr.blk hd1 (Blk.new w _ _) b_34
 rw [World.size_alloc] at hR
 have HG := Lib.hid ((GRow.ofRow rfl hR).addEx (g := w1.heap.size) (Nat.le_refl _))
 have hA := Lib.hid (okAny.of n hV)
 have hnl := validName_len hV
 obtain ⟨A, c, rfl⟩ := hR.form
 clear hR
 go_wp2_with fail
 refine (C_spec_l1Below _ B 8 b_9 b_33 b_33).mono ?_
 rintro e w2 ⟨hd2, hc2, x, rfl, hx0, hx1⟩
 have z2 := hd2.size
 simp only [World.size_alloc] at z2
 have E2 : Dr B w1 w2 := b_3
 have D2 := D1.trans E2
 have hO2 := Dr.blk E2 hO1 b_34
 have hN2 : Blk w2 w1.heap.size 27 #[.slice A n.length c] := Dr.blk hd2 (Blk.new w1 _ _) b_34
 have HG2 := Lib.hid (HG.out.dr E2 b_34)
 clear HG hd1 hd2 hO1 E2 D1 hc1
 have zN2 := hN2.lt
 have kN : w2.cell? ⟨w1.heap.size, 0, none⟩ = some (.slice A n.length c) := hN2.c1
 have fN : w2.frozen? ⟨w1.heap.size, 0, none⟩ = false := hN2.f1
 rcases (show x = 0 ∨ x = 1 ∨ (x ≠ 0 ∧ x ≠ 1) by omega) with rfl | rfl | hx
 ·go_wp2_with fail
  refine wp_region_noPanic ?_
  refine wp_region_held_drew (S := (fun _ => True)) b_31 ?_ (fun hHeld => ?_)
  ·trivial
  refine tkz2 0 2 ?_
  try simp only [layz]
  refine rz2 1 3 (fun K hK => ?_) (fun K hK => ?_)
  ·go_simp
   refine hK.out _ _ ?_ (fun hHeld => ?_)
   ·(try dsimp only)
    try trivial
   clear hK K
   try simp only [layz]
   refine rz1 3 (fun K hK => ?_)
   go_simp
   refine hK.out _ _ ?_ (fun hHeld => ?_)
   ·(try dsimp only)
    try trivial
   clear hK K
   try simp only [layz]
   refine rz1 4 (fun K hK => ?_)
   go_simp
   go_at_call 140
   refine (C_spec_l1Str _ B _ [[], [65], [116, 111, 111, 108, 111, 110, 103, 120, 120], [97, 47, 98], [32], [101, 105, 103, 104, 116, 56, 56, 56]] b_9 b_7 b_33 b_33).mono ?_
   rintro e w3 ⟨hd3, hc3, s, hs, rfl⟩
   have z3 := hd3.size
   (try simp only [World.size_alloc, World.size_drew, size_drewN] at z3)
   have hs9 := any6 hs
   have hsl : s.length ≤ 9223372036854775807 := by omega
   have E3 : Dr B w2 w3 := b_3
   have HG3 := Lib.hid (HG2.out.dr E3 b_34)
   have hO3 := Dr.blk E3 hO2 b_34
   have hN3 := Dr.blk E3 hN2 b_34
   have kN3 := hN3.c1
   have zN3 := hN3.lt
   have D3 : Dr B w w3 := D2.trans E3
   clear hs hd3
   refine hK.out _ _ ?_ (fun hHeld => ?_)
   ·(try dsimp only)
    try trivial
   clear hK K
   try simp only [layz]
   refine rz1 5 (fun K hK => ?_)
   go_simp
   refine hK.out _ _ ?_ (fun hHeld => ?_)
   ·(try dsimp only)
    try trivial
   clear hK K
   try simp only [layz]
   refine rz1 6 (fun K hK => ?_)
   refine step_append_grow (e := .str) b_35 _ _ 25 b_35 (w.heap.size + 1) [w1.heap.size] 9 info_str rfl Try.underlying25 (.slice A n.length c) _ n [s] b_35 b_35 b_13 (ASrc.flat rfl b_12) ?_ ?_ ?_ ?_ ?_
   ·intro q hq; simp at hq; subst hq; exact b_27
   ·simp only [List.length_singleton]; omega
   ·simp only [List.length_singleton]; unfold maxLen; omega
   ·exact b_27
   intro v' w' hr' hg'
   have hbl := HG3.out.block
   have hrow : ∀ q, (Value.slice A n.length c).ownBlock = some q → w.heap.size + 1 ≤ q ∧ q ≠ w1.heap.size := fun q hq => ⟨(hbl q hq).1, fun e => (hbl q hq).2.2 (by rw [e]; simp)⟩
   have zg := hg'.size
   (try simp only [World.size_alloc, size_drewN, World.size_drew] at zg)
   have hO4 : Blk w' w.heap.size 27 #[.slice none 0 0] := Blk.grown b_14 hg' (fun e => by have := hrow _ e.symm; omega)
   have hN4 : Blk w' w1.heap.size 27 #[.slice A n.length c] := Blk.grown b_14 hg' (fun e => (hrow _ e.symm).2 rfl)
   have D4 : Dr B w w' := Dr.grown b_3 hg' (fun q hq => by have := hrow q hq; omega)
   have C4 : CurT w' B := Cur.grown b_9 hg' (fun q hq => by have := hrow q hq; omega)
   have hA' := Lib.hid (okAny.app hA.out b_34 hs9)
   obtain ⟨n', hn'⟩ : ∃ n', n' = n ++ [s] := ⟨_, rfl⟩
   rw [← hn'] at hr' hA'
   have hl' := Lib.hid (show n'.length = n.length + 1 by rw [hn', List.length_append, List.length_singleton])
   clear hn'
   obtain ⟨A', c', rfl⟩ := hr'.form
   have HR' := Lib.hid hr'
   clear hr' hg' hbl hrow
   have fN4 : w'.frozen? ⟨w1.heap.size, 0, none⟩ = false := hN4.f1
   have kN4 : w'.cell? ⟨w1.heap.size, 0, none⟩ = some (.slice A n.length c) := hN4.c1
   refine hK.out _ _ ?_ (fun hHeld => ?_)
   ·(try dsimp only)
    try trivial
   clear hK K
   try simp only [layz]
   refine tkz 7 ?_
   try simp only [layz]
   refine rz1 8 (fun K hK => ?_)
   go_simp
   obtain ⟨w5, hw5⟩ : ∃ w5, w5 = w'.setCell ⟨w1.heap.size, 0, none⟩ (.slice A' (List.length n') c') := ⟨_, rfl⟩
   rw [← hw5]
   have hN5 : Blk w5 w1.heap.size 27 #[.slice A' (List.length n') c'] := by rw [hw5]; exact hN4.set_ 0 _
   have hO5 : Blk w5 w.heap.size 27 #[.slice none 0 0] := by rw [hw5]; exact hO4.far b_30 _
   have D5 : Dr B w w5 := by rw [hw5]; exact Dr.set D4 (.inr b_30) _
   have C5 : CurT w5 B := by rw [hw5]; exact Cur.far C4 b_30 _
   have HG5 : Hid (GRow .str (w.heap.size + 1) [w1.heap.size] w5 9 (.slice A' (List.length n') c') n') := by rw [hw5]; exact Lib.hid (GRow.set HR'.out (.inr (by simp)) _)
   clear hw5 hN4 hO4 D4 C4 HR' fN4 kN4
   have zn5 := hN5.lt
   refine hK.out _ _ ?_ (fun hHeld => ?_)
   ·(try dsimp only)
    try trivial
   clear hK K
   try simp only [layz]
   refine wpAnyH_done b_31 ?_ _
   refine NoPanic.normal ?_
   have kN9 : w5.cell? ⟨w1.heap.size, 0, none⟩ = some (.slice A' (List.length n') c') := hN5.c1
   have kO9 : w5.cell? ⟨w.heap.size, 0, none⟩ = some (.slice none 0 0) := hO5.c1
   have fO9 : w5.frozen? ⟨w.heap.size, 0, none⟩ = false := hO5.f1
   have zO9 := hO5.lt
   have C9 : CurT (w5.setCell ⟨w.heap.size, 0, none⟩ (.slice A' (List.length n') c')) B := Cur.far C5 b_30 _
   have D9 := Dr.set D5 (p := ⟨w.heap.size, 0, none⟩) (.inr (Nat.le_refl _)) (.slice A' (List.length n') c')
   have k9 := (Blk.set_ hO5 0 (.slice A' (List.length n') c')).c1
   have Q9 := (GRow.set HG5.out (p := ⟨w.heap.size, 0, none⟩) (.inl b_30) (.slice A' (List.length n') c')).rdI
   go_wp2_with fail
   refine bodyPost_ret (v := .agg #[.slice A' (List.length n') c']) (by simp [results, Try.results155, go_sem, kO9, fO9, zO9]) rfl ?_
   exact ⟨D9, C9, _, n', rfl, Q9.mono b_34 (Nat.le_refl _) (Nat.le_refl _), hA'.out⟩
  ·go_simp
   refine hK.out _ _ ?_ (fun hHeld => ?_)
   ·(try dsimp only)
    try trivial
   clear hK K
   try simp only [layz]
   refine rz2 1 4 (fun K hK => ?_) (fun K hK => ?_)
   ·go_simp
    refine hK.out _ _ ?_ (fun hHeld => ?_)
    ·(try dsimp only)
     try trivial
    clear hK K
    try simp only [layz]
    refine rz1 4 (fun K hK => ?_)
    go_simp
    go_at_call 140
    refine (C_spec_l1Str _ B _ [[], [65], [116, 111, 111, 108, 111, 110, 103, 120, 120], [97, 47, 98], [32], [101, 105, 103, 104, 116, 56, 56, 56]] b_9 b_7 b_33 b_33).mono ?_
    rintro e w3 ⟨hd3, hc3, s, hs, rfl⟩
    have z3 := hd3.size
    (try simp only [World.size_alloc, World.size_drew, size_drewN] at z3)
    have hs9 := any6 hs
    have hsl : s.length ≤ 9223372036854775807 := by omega
    have E3 : Dr B w2 w3 := b_3
    have HG3 := Lib.hid (HG2.out.dr E3 b_34)
    have hO3 := Dr.blk E3 hO2 b_34
    have hN3 := Dr.blk E3 hN2 b_34
    have kN3 := hN3.c1
    have zN3 := hN3.lt
    have D3 : Dr B w w3 := D2.trans E3
    clear hs hd3
    refine hK.out _ _ ?_ (fun hHeld => ?_)
    ·(try dsimp only)
     try trivial
    clear hK K
    try simp only [layz]
    refine rz1 5 (fun K hK => ?_)
    go_simp
    refine hK.out _ _ ?_ (fun hHeld => ?_)
    ·(try dsimp only)
     try trivial
    clear hK K
    try simp only [layz]
    refine rz1 6 (fun K hK => ?_)
    refine step_append_grow (e := .str) b_35 _ _ 25 b_35 (w.heap.size + 1) [w1.heap.size] 9 info_str rfl Try.underlying25 (.slice A n.length c) _ n [s] b_35 b_35 b_13 (ASrc.flat rfl b_12) ?_ ?_ ?_ ?_ ?_
    ·intro q hq; simp at hq; subst hq; exact b_27
    ·simp only [List.length_singleton]; omega
    ·simp only [List.length_singleton]; unfold maxLen; omega
    ·exact b_27
    intro v' w' hr' hg'
    have hbl := HG3.out.block
    have hrow : ∀ q, (Value.slice A n.length c).ownBlock = some q → w.heap.size + 1 ≤ q ∧ q ≠ w1.heap.size := fun q hq => ⟨(hbl q hq).1, fun e => (hbl q hq).2.2 (by rw [e]; simp)⟩
    have zg := hg'.size
    (try simp only [World.size_alloc, size_drewN, World.size_drew] at zg)
    have hO4 : Blk w' w.heap.size 27 #[.slice none 0 0] := Blk.grown b_14 hg' (fun e => by have := hrow _ e.symm; omega)
    have hN4 : Blk w' w1.heap.size 27 #[.slice A n.length c] := Blk.grown b_14 hg' (fun e => (hrow _ e.symm).2 rfl)
    have D4 : Dr B w w' := Dr.grown b_3 hg' (fun q hq => by have := hrow q hq; omega)
    have C4 : CurT w' B := Cur.grown b_9 hg' (fun q hq => by have := hrow q hq; omega)
    have hA' := Lib.hid (okAny.app hA.out b_34 hs9)
    obtain ⟨n', hn'⟩ : ∃ n', n' = n ++ [s] := ⟨_, rfl⟩
    rw [← hn'] at hr' hA'
    have hl' := Lib.hid (show n'.length = n.length + 1 by rw [hn', List.length_append, List.length_singleton])
    clear hn'
    obtain ⟨A', c', rfl⟩ := hr'.form
    have HR' := Lib.hid hr'
    clear hr' hg' hbl hrow
    have fN4 : w'.frozen? ⟨w1.heap.size, 0, none⟩ = false := hN4.f1
    have kN4 : w'.cell? ⟨w1.heap.size, 0, none⟩ = some (.slice A n.length c) := hN4.c1
    refine hK.out _ _ ?_ (fun hHeld => ?_)
    ·(try dsimp only)
     try trivial
    clear hK K
    try simp only [layz]
    refine tkz 7 ?_
    try simp only [layz]
    refine rz1 8 (fun K hK => ?_)
    go_simp
    obtain ⟨w5, hw5⟩ : ∃ w5, w5 = w'.setCell ⟨w1.heap.size, 0, none⟩ (.slice A' (List.length n') c') := ⟨_, rfl⟩
    rw [← hw5]
    have hN5 : Blk w5 w1.heap.size 27 #[.slice A' (List.length n') c'] := by rw [hw5]; exact hN4.set_ 0 _
    have hO5 : Blk w5 w.heap.size 27 #[.slice none 0 0] := by rw [hw5]; exact hO4.far b_30 _
    have D5 : Dr B w w5 := by rw [hw5]; exact Dr.set D4 (.inr b_30) _
    have C5 : CurT w5 B := by rw [hw5]; exact Cur.far C4 b_30 _
    have HG5 : Hid (GRow .str (w.heap.size + 1) [w1.heap.size] w5 9 (.slice A' (List.length n') c') n') := by rw [hw5]; exact Lib.hid (GRow.set HR'.out (.inr (by simp)) _)
    clear hw5 hN4 hO4 D4 C4 HR' fN4 kN4
    have zn5 := hN5.lt
    refine hK.out _ _ ?_ (fun hHeld => ?_)
    ·(try dsimp only)
     try trivial
    clear hK K
    try simp only [layz]
    refine wpAnyH_done b_31 ?_ _
    refine NoPanic.normal ?_
    have kN9 : w5.cell? ⟨w1.heap.size, 0, none⟩ = some (.slice A' (List.length n') c') := hN5.c1
    have kO9 : w5.cell? ⟨w.heap.size, 0, none⟩ = some (.slice none 0 0) := hO5.c1
    have fO9 : w5.frozen? ⟨w.heap.size, 0, none⟩ = false := hO5.f1
    have zO9 := hO5.lt
    have C9 : CurT (w5.setCell ⟨w.heap.size, 0, none⟩ (.slice A' (List.length n') c')) B := Cur.far C5 b_30 _
    have D9 := Dr.set D5 (p := ⟨w.heap.size, 0, none⟩) (.inr (Nat.le_refl _)) (.slice A' (List.length n') c')
    have k9 := (Blk.set_ hO5 0 (.slice A' (List.length n') c')).c1
    have Q9 := (GRow.set HG5.out (p := ⟨w.heap.size, 0, none⟩) (.inl b_30) (.slice A' (List.length n') c')).rdI
    go_wp2_with fail
    refine bodyPost_ret (v := .agg #[.slice A' (List.length n') c']) (by simp [results, Try.results155, go_sem, kO9, fO9, zO9]) rfl ?_
    exact ⟨D9, C9, _, n', rfl, Q9.mono b_34 (Nat.le_refl _) (Nat.le_refl _), hA'.out⟩
   ·go_simp
    go_at_call 140
    refine (C_spec_l1Str _ B _ [[], [65], [116, 111, 111, 108, 111, 110, 103, 120, 120], [97, 47, 98], [32], [101, 105, 103, 104, 116, 56, 56, 56]] b_9 b_7 b_33 b_33).mono ?_
    rintro e w3 ⟨hd3, hc3, s, hs, rfl⟩
    have z3 := hd3.size
    (try simp only [World.size_alloc, World.size_drew, size_drewN] at z3)
    have hs9 := any6 hs
    have hsl : s.length ≤ 9223372036854775807 := by omega
    have E3 : Dr B w2 w3 := b_3
    have HG3 := Lib.hid (HG2.out.dr E3 b_34)
    have hO3 := Dr.blk E3 hO2 b_34
    have hN3 := Dr.blk E3 hN2 b_34
    have kN3 := hN3.c1
    have zN3 := hN3.lt
    have D3 : Dr B w w3 := D2.trans E3
    clear hs hd3
    refine hK.out _ _ ?_ (fun hHeld => ?_)
    ·(try dsimp only)
     try trivial
    clear hK K
    try simp only [layz]
    refine rz2 1 5 (fun K hK => ?_) (fun K hK => ?_)
    ·go_simp
     refine hK.out _ _ ?_ (fun hHeld => ?_)
     ·(try dsimp only)
      try trivial
     clear hK K
     try simp only [layz]
     refine rz1 5 (fun K hK => ?_)
     go_simp
     refine hK.out _ _ ?_ (fun hHeld => ?_)
     ·(try dsimp only)
      try trivial
     clear hK K
     try simp only [layz]
     refine rz1 6 (fun K hK => ?_)
     refine step_append_grow (e := .str) b_35 _ _ 25 b_35 (w.heap.size + 1) [w1.heap.size] 9 info_str rfl Try.underlying25 (.slice A n.length c) _ n [s] b_35 b_35 b_13 (ASrc.flat rfl b_12) ?_ ?_ ?_ ?_ ?_
     ·intro q hq; simp at hq; subst hq; exact b_27
     ·simp only [List.length_singleton]; omega
     ·simp only [List.length_singleton]; unfold maxLen; omega
     ·exact b_27
     intro v' w' hr' hg'
     have hbl := HG3.out.block
     have hrow : ∀ q, (Value.slice A n.length c).ownBlock = some q → w.heap.size + 1 ≤ q ∧ q ≠ w1.heap.size := fun q hq => ⟨(hbl q hq).1, fun e => (hbl q hq).2.2 (by rw [e]; simp)⟩
     have zg := hg'.size
     (try simp only [World.size_alloc, size_drewN, World.size_drew] at zg)
     have hO4 : Blk w' w.heap.size 27 #[.slice none 0 0] := Blk.grown b_14 hg' (fun e => by have := hrow _ e.symm; omega)
     have hN4 : Blk w' w1.heap.size 27 #[.slice A n.length c] := Blk.grown b_14 hg' (fun e => (hrow _ e.symm).2 rfl)
     have D4 : Dr B w w' := Dr.grown b_3 hg' (fun q hq => by have := hrow q hq; omega)
     have C4 : CurT w' B := Cur.grown b_9 hg' (fun q hq => by have := hrow q hq; omega)
     have hA' := Lib.hid (okAny.app hA.out b_34 hs9)
     obtain ⟨n', hn'⟩ : ∃ n', n' = n ++ [s] := ⟨_, rfl⟩
     rw [← hn'] at hr' hA'
     have hl' := Lib.hid (show n'.length = n.length + 1 by rw [hn', List.length_append, List.length_singleton])
     clear hn'
     obtain ⟨A', c', rfl⟩ := hr'.form
     have HR' := Lib.hid hr'
     clear hr' hg' hbl hrow
     have fN4 : w'.frozen? ⟨w1.heap.size, 0, none⟩ = false := hN4.f1
     have kN4 : w'.cell? ⟨w1.heap.size, 0, none⟩ = some (.slice A n.length c) := hN4.c1
     refine hK.out _ _ ?_ (fun hHeld => ?_)
     ·(try dsimp only)
      try trivial
     clear hK K
     try simp only [layz]
     refine tkz 7 ?_
     try simp only [layz]
     refine rz1 8 (fun K hK => ?_)
     go_simp
     obtain ⟨w5, hw5⟩ : ∃ w5, w5 = w'.setCell ⟨w1.heap.size, 0, none⟩ (.slice A' (List.length n') c') := ⟨_, rfl⟩
     rw [← hw5]
     have hN5 : Blk w5 w1.heap.size 27 #[.slice A' (List.length n') c'] := by rw [hw5]; exact hN4.set_ 0 _
     have hO5 : Blk w5 w.heap.size 27 #[.slice none 0 0] := by rw [hw5]; exact hO4.far b_30 _
     have D5 : Dr B w w5 := by rw [hw5]; exact Dr.set D4 (.inr b_30) _
     have C5 : CurT w5 B := by rw [hw5]; exact Cur.far C4 b_30 _
     have HG5 : Hid (GRow .str (w.heap.size + 1) [w1.heap.size] w5 9 (.slice A' (List.length n') c') n') := by rw [hw5]; exact Lib.hid (GRow.set HR'.out (.inr (by simp)) _)
     clear hw5 hN4 hO4 D4 C4 HR' fN4 kN4
     have zn5 := hN5.lt
     refine hK.out _ _ ?_ (fun hHeld => ?_)
     ·(try dsimp only)
      try trivial
     clear hK K
     try simp only [layz]
     refine wpAnyH_done b_31 ?_ _
     refine NoPanic.normal ?_
     have kN9 : w5.cell? ⟨w1.heap.size, 0, none⟩ = some (.slice A' (List.length n') c') := hN5.c1
     have kO9 : w5.cell? ⟨w.heap.size, 0, none⟩ = some (.slice none 0 0) := hO5.c1
     have fO9 : w5.frozen? ⟨w.heap.size, 0, none⟩ = false := hO5.f1
     have zO9 := hO5.lt
     have C9 : CurT (w5.setCell ⟨w.heap.size, 0, none⟩ (.slice A' (List.length n') c')) B := Cur.far C5 b_30 _
     have D9 := Dr.set D5 (p := ⟨w.heap.size, 0, none⟩) (.inr (Nat.le_refl _)) (.slice A' (List.length n') c')
     have k9 := (Blk.set_ hO5 0 (.slice A' (List.length n') c')).c1
     have Q9 := (GRow.set HG5.out (p := ⟨w.heap.size, 0, none⟩) (.inl b_30) (.slice A' (List.length n') c')).rdI
     go_wp2_with fail
     refine bodyPost_ret (v := .agg #[.slice A' (List.length n') c']) (by simp [results, Try.results155, go_sem, kO9, fO9, zO9]) rfl ?_
     exact ⟨D9, C9, _, n', rfl, Q9.mono b_34 (Nat.le_refl _) (Nat.le_refl _), hA'.out⟩
    ·go_simp
     refine hK.out _ _ ?_ (fun hHeld => ?_)
     ·(try dsimp only)
      try trivial
     clear hK K
     try simp only [layz]
     refine rz1 1 (fun K hK => ?_)
     go_simp
     refine hK.out _ _ ?_ (fun hHeld => ?_)
     ·(try dsimp only)
      try trivial
     clear hK K
     try simp only [layz]
     refine rz1 6 (fun K hK => ?_)
     refine step_append_grow (e := .str) b_35 _ _ 25 b_35 (w.heap.size + 1) [w1.heap.size] 9 info_str rfl Try.underlying25 (.slice A n.length c) _ n [s] b_35 b_35 b_13 (ASrc.flat rfl b_12) ?_ ?_ ?_ ?_ ?_
     ·intro q hq; simp at hq; subst hq; exact b_27
     ·simp only [List.length_singleton]; omega
     ·simp only [List.length_singleton]; unfold maxLen; omega
     ·exact b_27
     intro v' w' hr' hg'
     have hbl := HG3.out.block
     have hrow : ∀ q, (Value.slice A n.length c).ownBlock = some q → w.heap.size + 1 ≤ q ∧ q ≠ w1.heap.size := fun q hq => ⟨(hbl q hq).1, fun e => (hbl q hq).2.2 (by rw [e]; simp)⟩
     have zg := hg'.size
     (try simp only [World.size_alloc, size_drewN, World.size_drew] at zg)
     have hO4 : Blk w' w.heap.size 27 #[.slice none 0 0] := Blk.grown b_14 hg' (fun e => by have := hrow _ e.symm; omega)
     have hN4 : Blk w' w1.heap.size 27 #[.slice A n.length c] := Blk.grown b_14 hg' (fun e => (hrow _ e.symm).2 rfl)
     have D4 : Dr B w w' := Dr.grown b_3 hg' (fun q hq => by have := hrow q hq; omega)
     have C4 : CurT w' B := Cur.grown b_9 hg' (fun q hq => by have := hrow q hq; omega)
     have hA' := Lib.hid (okAny.app hA.out b_34 hs9)
     obtain ⟨n', hn'⟩ : ∃ n', n' = n ++ [s] := ⟨_, rfl⟩
     rw [← hn'] at hr' hA'
     have hl' := Lib.hid (show n'.length = n.length + 1 by rw [hn', List.length_append, List.length_singleton])
     clear hn'
     obtain ⟨A', c', rfl⟩ := hr'.form
     have HR' := Lib.hid hr'
     clear hr' hg' hbl hrow
     have fN4 : w'.frozen? ⟨w1.heap.size, 0, none⟩ = false := hN4.f1
     have kN4 : w'.cell? ⟨w1.heap.size, 0, none⟩ = some (.slice A n.length c) := hN4.c1
     refine hK.out _ _ ?_ (fun hHeld => ?_)
     ·(try dsimp only)
      try trivial
     clear hK K
     try simp only [layz]
     refine tkz 7 ?_
     try simp only [layz]
     refine rz1 8 (fun K hK => ?_)
     go_simp
     obtain ⟨w5, hw5⟩ : ∃ w5, w5 = w'.setCell ⟨w1.heap.size, 0, none⟩ (.slice A' (List.length n') c') := ⟨_, rfl⟩
     rw [← hw5]
     have hN5 : Blk w5 w1.heap.size 27 #[.slice A' (List.length n') c'] := by rw [hw5]; exact hN4.set_ 0 _
     have hO5 : Blk w5 w.heap.size 27 #[.slice none 0 0] := by rw [hw5]; exact hO4.far b_30 _
     have D5 : Dr B w w5 := by rw [hw5]; exact Dr.set D4 (.inr b_30) _
     have C5 : CurT w5 B := by rw [hw5]; exact Cur.far C4 b_30 _
     have HG5 : Hid (GRow .str (w.heap.size + 1) [w1.heap.size] w5 9 (.slice A' (List.length n') c') n') := by rw [hw5]; exact Lib.hid (GRow.set HR'.out (.inr (by simp)) _)
     clear hw5 hN4 hO4 D4 C4 HR' fN4 kN4
     have zn5 := hN5.lt
     refine hK.out _ _ ?_ (fun hHeld => ?_)
     ·(try dsimp only)
      try trivial
     clear hK K
     try simp only [layz]
     refine wpAnyH_done b_31 ?_ _
     refine NoPanic.normal ?_
     have kN9 : w5.cell? ⟨w1.heap.size, 0, none⟩ = some (.slice A' (List.length n') c') := hN5.c1
     have kO9 : w5.cell? ⟨w.heap.size, 0, none⟩ = some (.slice none 0 0) := hO5.c1
     have fO9 : w5.frozen? ⟨w.heap.size, 0, none⟩ = false := hO5.f1
     have zO9 := hO5.lt
     have C9 : CurT (w5.setCell ⟨w.heap.size, 0, none⟩ (.slice A' (List.length n') c')) B := Cur.far C5 b_30 _
     have D9 := Dr.set D5 (p := ⟨w.heap.size, 0, none⟩) (.inr (Nat.le_refl _)) (.slice A' (List.length n') c')
     have k9 := (Blk.set_ hO5 0 (.slice A' (List.length n') c')).c1
     have Q9 := (GRow.set HG5.out (p := ⟨w.heap.size, 0, none⟩) (.inl b_30) (.slice A' (List.length n') c')).rdI
     go_wp2_with fail
     refine bodyPost_ret (v := .agg #[.slice A' (List.length n') c']) (by simp [results, Try.results155, go_sem, kO9, fO9, zO9]) rfl ?_
     exact ⟨D9, C9, _, n', rfl, Q9.mono b_34 (Nat.le_refl _) (Nat.le_refl _), hA'.out⟩
 ·go_wp2
  go_loopw [] (fun wr => ∃ (A : Option Addr) (c : Nat) (n : List (List UInt8)), CurT wr B ∧ Dr B w wr ∧ Blk wr w.heap.size 27 #[.slice none 0 0] ∧ Blk wr w1.heap.size 27 #[.slice A n.length c] ∧ GRow .str (w.heap.size + 1) [w1.heap.size] wr 9 (.slice A n.length c) n ∧ okAny n) (fun wr => 7 - cellLen w1.heap.size wr)
  case atStart => exact ⟨A, c, n, hc2, D2, hO2, hN2, HG2.out, hA.out⟩
  case round =>
   obtain ⟨A, c, n, hcr, hdr, hOr, hNr, hGr, hAr⟩ := hrel
   have HGr := Lib.hid hGr
   have hA := Lib.hid hAr
   clear hGr hAr HG2 hO2 hN2 kN fN hc2
   have zr := hdr.size
   have znr := hNr.lt
   have kN : wr.cell? ⟨w1.heap.size, 0, none⟩ = some (.slice A n.length c) := hNr.c1
   have HC : Hid (∀ V, Dr B wr V → V.cell? ⟨w1.heap.size, 0, none⟩ = some (.slice A n.length c)) := fun V hV => (Dr.blk hV hNr b_34).c1
   go_wp2_with fail
   refine wp_region_noPanic ?_
   refine wp_region_held_drew (S := (fun W => W.cell? ⟨w1.heap.size, 0, none⟩ = some (.slice A n.length c))) b_31 ?_ (fun hHeld => ?_)
   ·exact HC.out _ b_3
   refine tkz4 0 3 1 2 ?_
   try simp only [layz]
   refine rz1 4 (fun K hK => ?_)
   go_simp
   go_at_call 69
   refine (C_spec_l1Below _ B 3 b_9 b_33 b_33).mono ?_
   rintro e w3 ⟨hd3, hc3, y, rfl, hy0, hy1⟩
   have hvy : IntKind.i64.wrap (5 + y) = 5 + y := IntWalk.i64_in _ b_34
   have z3 := hd3.size
   (try simp only [World.size_drew, size_drewN] at z3)
   have E3 : Dr B wr w3 := b_3
   have HG3 := Lib.hid (HGr.out.dr E3 b_34)
   have hO3 := Dr.blk E3 hOr b_34
   have hN3 := Dr.blk E3 hNr b_34
   have kN3 := hN3.c1
   have zN3 := hN3.lt
   have D3 : Dr B w w3 := hdr.trans E3
   clear hd3
   refine hK.out _ _ (HC.out _ b_3) (fun hHeld => ?_)
   clear hK K
   try simp only [layz]
   refine tkz2 5 6 ?_
   try simp only [layz]
   refine wpAnyH_done b_31 ?_ _
   refine NoPanic.normal ?_
   by_cases hlt : (n.length : Int) < 5 + y
   ·set_option maxRecDepth 100000 in go_wp2_with (at_builtin; go_loud (refine wpList_append_grow (e := .str) rfl _ _ 25 rfl (w.heap.size + 1) [w1.heap.size] 9 info_str rfl Try.underlying25 (.slice A n.length c) _ n [[109]] rfl rfl b_13 (ASrc.flat rfl (by (repeat (with_reducible refine rd_drewP ?_)); exact rd_lit1A b_35 b_33 (by first | (with_reducible rfl) | simp only [World.size_drew] | simp only [World.size_alloc, World.size_drew, size_drewN]))) ?_ ?_ ?_ ?_ ?_))
    case refine_1 => intro q hq; simp at hq; subst hq; exact b_27
    case refine_2 => simp only [List.length_singleton]; omega
    case refine_3 => simp only [List.length_singleton]; unfold maxLen; omega
    case refine_4 => exact b_27
    intro v' w' hr' hg'
    have hbl := HG3.out.block
    have hrow : ∀ q, (Value.slice A n.length c).ownBlock = some q → w.heap.size + 1 ≤ q ∧ q ≠ w1.heap.size := fun q hq => ⟨(hbl q hq).1, fun e => (hbl q hq).2.2 (by rw [e]; simp)⟩
    have zg := hg'.size
    (try simp only [World.size_alloc, size_drewN, World.size_drew] at zg)
    have hO4 : Blk w' w.heap.size 27 #[.slice none 0 0] := Blk.grown b_14 hg' (fun e => by have := hrow _ e.symm; omega)
    have hN4 : Blk w' w1.heap.size 27 #[.slice A n.length c] := Blk.grown b_14 hg' (fun e => (hrow _ e.symm).2 rfl)
    have D4 : Dr B w w' := Dr.grown b_3 hg' (fun q hq => by have := hrow q hq; omega)
    have C4 : CurT w' B := Cur.grown b_9 hg' (fun q hq => by have := hrow q hq; omega)
    have hA' := Lib.hid (okAny.app hA.out b_34 (show List.length ([109] : List UInt8) ≤ 9 by decide))
    obtain ⟨n', hn'⟩ : ∃ n', n' = n ++ [[109]] := ⟨_, rfl⟩
    rw [← hn'] at hr' hA'
    have hl' := Lib.hid (show n'.length = n.length + 1 by rw [hn', List.length_append, List.length_singleton])
    clear hn'
    obtain ⟨A', c', rfl⟩ := hr'.form
    have HR' := Lib.hid hr'
    clear hr' hg' hbl hrow
    have fN4 : w'.frozen? ⟨w1.heap.size, 0, none⟩ = false := hN4.f1
    have kN4 : w'.cell? ⟨w1.heap.size, 0, none⟩ = some (.slice A n.length c) := hN4.c1
    have hN5 : Blk (w'.setCell ⟨w1.heap.size, 0, none⟩ (.slice A' (List.length n') c')) w1.heap.size 27 #[.slice A' (List.length n') c'] := hN4.set_ 0 _
    have hO5 : Blk (w'.setCell ⟨w1.heap.size, 0, none⟩ (.slice A' (List.length n') c')) w.heap.size 27 #[.slice none 0 0] := hO4.far b_30 _
    have D5 : Dr B w (w'.setCell ⟨w1.heap.size, 0, none⟩ (.slice A' (List.length n') c')) := Dr.set D4 (.inr b_30) _
    have C5 : CurT (w'.setCell ⟨w1.heap.size, 0, none⟩ (.slice A' (List.length n') c')) B := Cur.far C4 b_30 _
    have HG5 : Hid (GRow .str (w.heap.size + 1) [w1.heap.size] (w'.setCell ⟨w1.heap.size, 0, none⟩ (.slice A' (List.length n') c')) 9 (.slice A' (List.length n') c') n') := Lib.hid (GRow.set HR'.out (.inr (by simp)) _)
    have hm9 := cellLen_blk hN5
    have hm8 := cellLen_blk hNr
    have zN4 := hN4.lt
    clear hN4 hO4 D4 C4 kN kN3
    go_wp2
    go_roundw
    case rel => exact ⟨A', c', n', C5, D5, hO5, hN5, HG5.out, hA'.out⟩
    case measure => rw [hm9, hm8, hl'.out]; omega
   ·have kN9 : w3.cell? ⟨w1.heap.size, 0, none⟩ = some (.slice A (List.length n) c) := hN3.c1
    have kO9 : w3.cell? ⟨w.heap.size, 0, none⟩ = some (.slice none 0 0) := hO3.c1
    have fO9 : w3.frozen? ⟨w.heap.size, 0, none⟩ = false := hO3.f1
    have zO9 := hO3.lt
    have C9 : CurT (w3.setCell ⟨w.heap.size, 0, none⟩ (.slice A (List.length n) c)) B := Cur.far hc3 b_30 _
    have D9 := Dr.set D3 (p := ⟨w.heap.size, 0, none⟩) (.inr (Nat.le_refl _)) (.slice A (List.length n) c)
    have k9 := (Blk.set_ hO3 0 (.slice A (List.length n) c)).c1
    have Q9 := (GRow.set HG3.out (p := ⟨w.heap.size, 0, none⟩) (.inl b_30) (.slice A (List.length n) c)).rdI
    go_wp2
    refine bodyPost_ret (v := .agg #[.slice A (List.length n) c]) (by simp [results, Try.results155, go_sem, kO9, fO9, zO9]) rfl ?_
    exact ⟨D9, C9, _, n, rfl, Q9.mono b_34 (Nat.le_refl _) (Nat.le_refl _), hA.out⟩
 ·have q0 : (x == 0) = false := by rw [beq_eq_false_iff_ne]; exact hx.1
  have q1 : (x == 1) = false := by rw [beq_eq_false_iff_ne]; exact hx.2
  have kN9 : w2.cell? ⟨w1.heap.size, 0, none⟩ = some (.slice A (List.length n) c) := hN2.c1
  have kO9 : w2.cell? ⟨w.heap.size, 0, none⟩ = some (.slice none 0 0) := hO2.c1
  have fO9 : w2.frozen? ⟨w.heap.size, 0, none⟩ = false := hO2.f1
  have zO9 := hO2.lt
  have C9 : CurT (w2.setCell ⟨w.heap.size, 0, none⟩ (.slice A (List.length n) c)) B := Cur.far hc2 b_30 _
  have D9 := Dr.set D2 (p := ⟨w.heap.size, 0, none⟩) (.inr (Nat.le_refl _)) (.slice A (List.length n) c)
  have k9 := (Blk.set_ hO2 0 (.slice A (List.length n) c)).c1
  have Q9 := (GRow.set HG2.out (p := ⟨w.heap.size, 0, none⟩) (.inl b_30) (.slice A (List.length n) c)).rdI
  go_wp2
  refine bodyPost_ret (v := .agg #[.slice A (List.length n) c]) (by simp [results, Try.results155, go_sem, kO9, fO9, zO9]) rfl ?_
  exact ⟨D9, C9, _, n, rfl, Q9.mono b_34 (Nat.le_refl _) (Nat.le_refl _), hA.out⟩
end Go.Proofs.Ytldgbnlcnlfmeaa
namespace Go.Proofs.Ytldgbnlcnlfmeaa
open Go.RowKit
set_option linter.unusedVariables false
set_option linter.unusedSimpArgs false
set_option maxRecDepth 100000 in
set_option maxHeartbeats 2000000 in
theorem C_spec_l1Bytes (w : World) (B n : Nat) (hc : CurT w B) (hn : n ≤ 256) :
  Calls Try.prog 149 #[pB B, .int .i64 n] w (RetDT B w (DrS .byte w (fun x => x.length = n))) := by
 have hB := hc.lt
 go_enter Try.func149, Try.ntmps149
 go_wp2
 go_loopw [5, 6] (fun v i wr => ∃ (k : Nat) (x : List UInt8), i = .int .i64 k ∧ k ≤ n ∧ x.length = k ∧ CurT wr B ∧ Dr B w wr ∧ Row flatB wr w.heap.size 5 v x) (fun _ i _ => n - (intOf i).toNat)
 case atStart => exact ⟨0, [], rfl, by omega, rfl, b_9, b_3, Row.lit0 flatB w 5 (Nat.le_refl _)⟩
 case round =>
  obtain ⟨k, x, rfl, hk, rfl, hcr, hdr, hR⟩ := hrel
  have zr := hdr.size
  obtain ⟨A, c, rfl⟩ := hR.form
  have HR := Lib.hid hR
  clear hR
  by_cases hlt : x.length < n
  ·go_wp2_with fail
   refine (C_spec_l1Byte _ B b_9).mono ?_
   rintro e w3 ⟨hd3, hc3, y, rfl, hy0, hy1⟩
   have z3 := hd3.size
   (try simp only [World.size_drew, size_drewN] at z3)
   have E3 : Dr B wr w3 := b_3
   have D3 : Dr B w w3 := hdr.trans E3
   have HR3 := Lib.hid (Row.dr HR.out E3 hB)
   have hyu : (.int .u8 (y : Int) : Value) = flatB.enc (UInt8.ofNat y.toNat) := by
    show _ = Value.int .u8 ((UInt8.ofNat y.toNat).toNat : Int)
    congr 1
    simp only [UInt8.toNat_ofNat']
    omega
   have hwy : IntKind.u8.wrap y = y := IntWalk.u8_in _ b_34
   have HL : Hid (Row flatB (w3.alloc (.cells #[.int .u8 y] 5)) w.heap.size 5 (.slice (some ⟨w3.heap.size, 0, none⟩) 1 1) [UInt8.ofNat y.toNat]) := by rw [hyu]; exact Row.lit1 flatB w3 5 _ trivial b_34
   clear hd3 hyu
   set_option maxRecDepth 100000 in go_wp2_with (at_builtin; go_loud (refine wpList_append_row rfl _ _ 22 rfl flatB w.heap.size 5 info_Byte rfl Try.underlying22 _ _ x [UInt8.ofNat y.toNat] rfl rfl (HR3.out.below b_6) (HL.out.rd b_27) ?_ ?_ ?_ ?_))
   case refine_1 => simp only [List.length_singleton]; omega
   case refine_2 => simp only [List.length_singleton]; unfold maxLen; omega
   case refine_3 => simp only [World.size_alloc]; omega
   intro v' w' hr' hg'
   have hbl := HR3.out.block
   have D4 : Dr B w w' := Dr.grown (Dr.alloc D3 _) hg' (fun g hg => (hbl g hg).1)
   have C4 : CurT w' B := Cur.grown (Cur.alloc hc3 _) hg' (fun g hg => by have := (hbl g hg).1; omega)
   have HR' := Lib.hid (show Row flatB w' w.heap.size 5 v' (x ++ [UInt8.ofNat y.toNat]) from hr')
   obtain ⟨A5, c5, rfl⟩ := HR'.out.form
   clear hr' hg' hbl
   go_wp2
   go_roundw
   case rel => exact ⟨x.length + 1, _, by go_num, by omega, by simp, C4, D4, HR'.out⟩
   case measure => simp [intOf]; omega
  ·go_wp2
   go_ret
   obtain ⟨fp9, how9, hfr9⟩ := HR.out.ow zr
   exact ⟨hdr, hcr, _, x, _, fp9, rfl, how9, hfr9, by omega⟩
theorem varint_lt : ∀ (k n : Nat), n < 128 ^ (k + 1) → (varint n).length ≤ k + 1
 | 0, n, h => by rw [varint, dif_pos b_34]; simp
 | k + 1, n, h => by
  rw [varint]
  by_cases hn : n < 128
  ·rw [dif_pos hn]; simp
  ·rw [dif_neg hn, List.length_cons]
   have := varint_lt k (n / 128) (by rw [Nat.div_lt_iff_lt_mul b_33]; rw [Nat.pow_succ] at h; exact h)
   omega
theorem appendVarint_len (b : List UInt8) (n : Int) : (f_AppendVarint b n).length ≤ b.length + 6 := by
 unfold f_AppendVarint
 split
 ·rename_i h
  have := varint_lt 5 n.toNat b_34
  rw [List.length_append]; omega
 ·omega
def f_AppendBytes (b s : List UInt8) : List UInt8 := f_AppendVarint b s.length ++ s
set_option maxHeartbeats 1000000 in
theorem C_spec_AppendBytes (w : World) (v1 v2 : Value) (b s : List UInt8) (h1 : (Ty.sl .byte).rd w [v1] b) (h2 : (Ty.sl .byte).rd w [v2] s) (hb : b.length ≤ 1099511627776) (hs : s.length ≤ 1099511627776) :
  Calls Try.prog 127 #[v1, v2] w (RetRow flatB w 5 (f_AppendBytes b s)) := by
 obtain ⟨A2, c2, rfl, hc2, hm2, hn2⟩ := Ty.rd_sl h2
 go_enter Try.func127, Try.ntmps127
 go_wp2_with fail
 refine (C_spec_AppendVarint _ _ b (s.length : Int) h1 hb b_34).mono ?_
 rintro e w1 ⟨u1, rfl, hr1, hb1⟩
 have HR := Lib.hid hr1
 clear hr1
 have HL := Lib.hid (appendVarint_len b s.length)
 have hz := hb1.size
 set_option maxRecDepth 100000 in go_wp2_with (at_builtin; go_loud (refine wpList_append_row rfl _ _ 22 rfl flatB w.heap.size 5 infoB rfl Try.underlying22 _ _ (f_AppendVarint b s.length) s rfl rfl HR.out (Ty.rd_below b_6 h2) ?_ ?_ ?_ ?_))
 case refine_1 => have := HL.out; omega
 case refine_2 => have := HL.out; unfold maxLen; omega
 case refine_3 => exact hz
 case refine_4 =>
  intro v' w' hr' hg'
  have hb' : Below w.heap.size w w' := bel_grown hb1 hz hg' (fun g hg => (HR.out.block g hg).1)
  have HR' := Lib.hid hr'
  clear hr'
  go_wp2
  go_ret
  exact ⟨_, rfl, HR'.out, hb'⟩
def convW (W : World) (te : TypeId) (s : List UInt8) : World := W.drew.alloc (.cells (bytesRow ⟨s.toArray⟩ (grownCap W s.length 0 te)) te ((bytesRow ⟨s.toArray⟩ (grownCap W s.length 0 te)).size, (bytesRow ⟨s.toArray⟩ (grownCap W s.length 0 te)).size + 1))
theorem convW_bel (W : World) (te : TypeId) (s : List UInt8) : Below W.heap.size W (convW W te s) := bel_alloc (bel_drew (Below.refl _ _)) _
theorem convW_rd (W : World) (te : TypeId) (s : List UInt8) (hs : s.length ≤ 1099511627776) : (Ty.sl .byte).rd (convW W te s) [.slice (some ⟨W.heap.size, 0, none⟩) s.length (grownCap W s.length 0 te)] s := by
 refine ⟨_, _, rfl, grownCap_ge W _ _ _, ⟨grownCap_le_maxLen W _ _ _ (by unfold maxLen; omega), fun h => by cases h⟩, by show s.length ≤ _; omega, fun _ => ⟨W.heap.size, 0, rfl, fun i hi => ⟨[.int .u8 (s[i].toNat : Int)], rfl, fun j hj => ?_, rfl⟩⟩⟩
 have hj0 : j = 0 := by simp [Ty.sz] at hj; omega
 subst hj0
 have h1 := cell_of_row (convW W te s) W.heap.size (0 + i * Ty.byte.sz + 0) _ _ _ (heap_alloc_new W.drew _)
 rw [h1]
 have h2 := bytesRow_at ⟨s.toArray⟩ (grownCap W s.length 0 te) i (by simpa using hi)
 rw [show 0 + i * Ty.byte.sz + 0 = i from by simp [Ty.sz], h2]
 simp
theorem foldBytes_len : ∀ (l : List (List UInt8)) (b : List UInt8), (∀ s ∈ l, s.length ≤ 8) → (l.foldl f_AppendBytes b).length ≤ b.length + 14 * l.length
 | [], b, _ => by simp
 | s :: l, b, h => by
  have h1 := foldBytes_len l (f_AppendBytes b s) (fun t ht => h t (List.mem_cons_of_mem _ ht))
  have h2 := appendVarint_len b s.length
  have h3 := h s (List.mem_cons_self ..)
  have h4 : (f_AppendBytes b s).length = (f_AppendVarint b s.length).length + s.length := by unfold f_AppendBytes; rw [List.length_append]
  rw [List.foldl_cons, List.length_cons]; omega
theorem foldBytes_take (l : List (List UInt8)) (b : List UInt8) {k : Nat} (h : k < l.length) : (l.take (k + 1)).foldl f_AppendBytes b = f_AppendBytes ((l.take k).foldl f_AppendBytes b) l[k] := by
 rw [List.take_succ_eq_append_getElem h, List.foldl_append]; rfl
theorem validName_parts {n : List (List UInt8)} (h : validName n = true) : n.length ≤ 6 ∧ ∀ s ∈ n, s.length ≤ 8 := by
 unfold validName at h
 simp only [Bool.and_eq_true, decide_eq_true_eq, List.all_eq_true] at h
 refine ⟨h.2, fun s hs => ?_⟩
 have := h.1 s hs
 unfold validPart at this
 simp only [Bool.and_eq_true, decide_eq_true_eq] at this
 exact this.2.2
def nameBytes (b : List UInt8) (n : List (List UInt8)) : List UInt8 := n.foldl f_AppendBytes (f_AppendVarint b n.length)
def f_AppendName (b : List UInt8) (n : List (List UInt8)) : List UInt8 := if validName n then nameBytes b n else b
set_option maxHeartbeats 1000000 in
theorem C_spec_AppendName (w : World) (v1 : Value) (b : List UInt8) (cs : List Value) (n : List (List UInt8)) (h1 : (Ty.sl .byte).rd w [v1] b) (h2 : (Ty.sl .str).rd w cs n) (hb : b.length ≤ 1000000000000) :
  Calls Try.prog 128 #[v1, .agg cs.toArray] w (RetRow flatB w 5 (f_AppendName b n)) := by
 obtain ⟨A2, c2, rfl⟩ := Ty.rd_slv h2
 obtain ⟨_, _, _, _, _, n2⟩ := Ty.rd_sl h2
 have hconv : ∀ (W : World) (s : List UInt8), (convert 9 22 (vS s)).run Try.prog W = .ok (.slice (some ⟨W.heap.size, 0, none⟩) s.length (grownCap W s.length 0 5)) (convW W 5 s) := fun W s => run_bytes_of_string W _ _ _ ⟨s.toArray⟩ Try.underlying9 Try.underlying22 Try.underlying5
 go_enter Try.func128, Try.ntmps128
 have hl0 : Row flatB ((w.alloc (.cells #[.slice A2 n.length c2] 27)).alloc (.cells #[] 5)) w.heap.size 5 (.slice (some ⟨w.heap.size + 1, 0, none⟩) 0 0) [] := by
  have := Row.lit0 flatB (w.alloc (.cells #[.slice A2 n.length c2] 27)) 5 (base := w.heap.size) (by rw [World.size_alloc]; omega)
  rwa [World.size_alloc] at this
 have HL00 := Lib.hid hl0
 clear hl0
 set_option maxRecDepth 100000 in go_wp2_with (at_builtin; go_loud (refine wpList_append_row rfl _ _ 22 rfl flatB w.heap.size 5 infoB rfl Try.underlying22 _ _ [] b rfl rfl HL00.out (Ty.rd_below b_6 h1) ?_ ?_ ?_ ?_))
 case refine_1 => simp only [List.length_nil]; omega
 case refine_2 => simp only [List.length_nil]; unfold maxLen; omega
 case refine_3 => simp only [World.size_alloc]; omega
 intro v0 w0 hr0 hg0
 have hb0 : Below w.heap.size w w0 := bel_grown b_6 b_27 hg0 (fun g hg => by simp [Value.ownBlock] at hg; omega)
 have hcl0 : w0.cell? ⟨w.heap.size, 0, none⟩ = some (.slice A2 n.length c2) := hg0.cell (by rw [World.cell?_alloc_lt _ _ _ b_26]; exact cell_new w _ _ 0 rfl) (by simp [Value.ownBlock])
 have z0 : w.heap.size < w0.heap.size := World.block_lt_of_cell? w0 _ hcl0
 have HR0 := Lib.hid hr0
 clear hr0
 go_wp2_with fail
 refine (C_spec_ValidName _ _ _ (Ty.rd_below hb0 h2)).mono ?_
 rintro e w1 ⟨rfl, hb1⟩
 have hw1 : Below w.heap.size w w1 := bel_trans hb0 hb1
 obtain ⟨hc1, hf1⟩ := bcell hb1
 have z1 : w.heap.size < w1.heap.size := Nat.lt_of_lt_of_le z0 hb1.size
 have HR1 := Lib.hid (HR0.out.below hb1)
 have HF := Lib.hid (show f_AppendName b n = if validName n then nameBytes b n else b from rfl)
 cases hq : validName n
 ·rw [hq] at HF
  go_wp2
  go_ret
  exact ⟨_, rfl, by rw [HF.out]; exact HR1.out, hw1⟩
 ·rw [hq] at HF
  have HV := Lib.hid (validName_parts hq)
  have hl6 := HV.out.1
  go_wp2_with fail
  refine (C_spec_AppendVarint _ _ b (n.length : Int) (HR1.out.rd hw1.size) b_34 b_34).mono ?_
  rintro e w2 ⟨u2, rfl, hr2, hb2⟩
  have hw2 : Below w.heap.size w w2 := bel_trans hw1 hb2
  have HR := Lib.hid (hr2.mono hw1.size)
  clear hr2
  have hcl2 : w2.cell? ⟨w.heap.size, 0, none⟩ = some (.slice A2 n.length c2) := (hb2.cell (p := ⟨w.heap.size, 0, none⟩) z1).trans ((hb1.cell (p := ⟨w.heap.size, 0, none⟩) z0).trans hcl0)
  have HL0 := Lib.hid (appendVarint_len b n.length)
  go_wp2
  go_loopw [5, 6] (fun l i wr => ∃ k : Nat, k ≤ n.length ∧ i = .int .i64 k ∧ Row flatB wr w.heap.size 5 l ((n.take k).foldl f_AppendBytes (f_AppendVarint b n.length)) ∧ Below w.heap.size w wr ∧ wr.cell? ⟨w.heap.size, 0, none⟩ = some (.slice A2 n.length c2)) (fun _ i _ => n.length - (intOf i).toNat)
  case atStart => exact ⟨0, by omega, rfl, HR.out, hw2, hcl2⟩
  case round =>
   obtain ⟨k, hk, rfl, hr, hbr, hcr⟩ := hrel
   have zr : w.heap.size < wr.heap.size := World.block_lt_of_cell? wr _ hcr
   have HRr := Lib.hid hr
   clear hr
   have hclr := hcr
   by_cases hlt : k < n.length
   ·obtain ⟨ab, ao, rfl, e0, m0⟩ := Ty.rd_str_at (Ty.rd_below hbr h2) hlt
    have HP := Lib.hid (foldBytes_take n (f_AppendVarint b n.length) hlt)
    have HL := Lib.hid (foldBytes_len (n.take k) (f_AppendVarint b n.length) (fun s hs => HV.out.2 s (List.mem_of_mem_take hs)))
    have hp8 : n[k].length ≤ 8 := HV.out.2 _ (List.getElem_mem hlt)
    go_wp2_with fail
    refine (C_spec_AppendBytes _ _ _ ((n.take k).foldl f_AppendBytes (f_AppendVarint b n.length)) n[k] ((HRr.out.below (convW_bel wr _ _)).rd (Nat.le_trans hbr.size (convW_bel wr _ _).size)) (convW_rd wr 5 n[k] b_34) (by have h3 := HL.out; have h4 := HL0.out; rw [List.length_take] at h3; omega) b_34).mono ?_
    rintro e w3 ⟨u3, rfl, hr3, hb3⟩
    have hb3' := bel_trans (convW_bel wr _ _) hb3
    have hw3 : Below w.heap.size w w3 := bel_trans hbr hb3'
    have HR3 := Lib.hid (hr3.mono (Nat.le_trans hbr.size (convW_bel wr _ _).size))
    clear hr3
    go_wp2
    go_roundw
    case rel => exact ⟨k + 1, by omega, by go_num, by rw [HP.out]; exact HR3.out, hw3, (hb3'.cell (p := ⟨w.heap.size, 0, none⟩) zr).trans hclr⟩
    case measure => simp [intOf]; omega
   ·have HE : Hid ((n.take k).foldl f_AppendBytes (f_AppendVarint b n.length) = nameBytes b n) := by rw [List.take_of_length_le b_34]; exact rfl
    go_wp2
    go_ret
    exact ⟨_, rfl, by rw [HF.out, ← HE.out]; exact HRr.out, hbr⟩
theorem rd_empty (w : World) {e : Ty} (A : Option Addr) : (Ty.sl e).rd w [.slice A 0 0] [] := ⟨A, 0, rfl, Nat.le_refl _, ⟨Nat.zero_le _, fun _ => rfl⟩, by simp, fun h => absurd h (by simp)⟩
end Go.Proofs.Ytldgbnlcnlfmeaa
