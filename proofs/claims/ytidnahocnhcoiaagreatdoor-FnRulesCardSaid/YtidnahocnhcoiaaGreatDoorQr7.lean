/- Texts of this claim, merged by a program: Drm. -/
import Derived.Test.YtidnahocnhcoiaaGreatDoorQrP
import Derived.Test.YtidnahocnhcoiaaGreatDoorQr6
import Derived.Deep.RegionHeld3
namespace Go.Proofs.YtidnahocnhcoiaaGreatDoor
open Go.RowKit
set_option linter.unusedVariables false
set_option linter.unusedSimpArgs false
theorem stored2rd {P W : World} {g : Nat} {t : TypeId} {a b v0 v1 : Value} (h : Blk P g t #[a, b]) (hw : W = ((P.setCell ⟨g, 0, none⟩ v0).setCell ⟨g, 1, none⟩ v1) ∨ W = ((P.setCell ⟨g, 0, none⟩ v0).setCell ⟨g, 1, none⟩ v1).drew) :
  Blk W g t #[v0, v1] ∧ (∀ q, q ≠ g → W.heap[q]? = P.heap[q]?) ∧ P.heap.size ≤ W.heap.size ∧ ∀ (B : Nat) (w0 : World), w0.heap.size ≤ g → Dr B w0 P → Dr B w0 W := by
 obtain ⟨h1, h2, h3, h4⟩ := stored2r (v0 := v0) (v1 := v1) h rfl
 rcases hw with rfl | rfl
 ·exact ⟨h1, h2, h3, h4⟩
 ·exact ⟨h1.drew, fun q hq => h2 q hq, h3, fun B w0 h0 hd => (h4 B w0 h0 hd).drew⟩
theorem fmt_okRule {x : tRule.D} (h : okRule x) : (f_FormatRule x).length ≤ 1000 := by
 have h0 := rule_bulk h
 have h1 : Ty.bulk (.sl .str) x.1 + Ty.bulk (.sl .str) x.2 ≤ 140 := h0
 have h2 := fmtP_len x.1
 have h3 := fmtP_len x.2
 unfold f_FormatRule fmtA
 rw [List.length_append, List.length_append]
 simp only [List.length_cons, List.length_nil]
 omega
theorem rt_len {s : List UInt8} (h : s ∈ [[], [47, 97, 32, 60, 32], [47, 97, 32, 60, 47, 98], [47, 97, 32, 60, 32, 47, 63, 120], [47, 63, 120, 47, 42, 42, 32, 60, 32, 47, 63, 120, 47, 107, 101, 121], [47, 97, 32, 62, 32, 47, 98], [47, 32, 60, 32, 47]]) : s.length ≤ 1000 := by
 simp at h; rcases h with rfl | rfl | rfl | rfl | rfl | rfl | rfl <;> decide
theorem okAny.len {n : List (List UInt8)} (h : okAny n) : n.length ≤ 1000000 := Nat.le_trans h.1 b_21
set_option maxRecDepth 100000 in
set_option maxHeartbeats 4000000 in
theorem C_spec_l10Copy (w : World) (cs : List Value) (x : tRule.D) (h : tRule.rd w cs x) (h1 : x.1.length ≤ 1000000) (h2 : x.2.length ≤ 1000000) :
  Calls Tryz.prog 36 #[.agg cs.toArray] w (fun e w' => ∃ cs, e = .returned (.agg cs.toArray) ∧ RdI tRule w.heap.size w'.heap.size w' cs x ∧ Below w.heap.size w w') := by
 obtain ⟨A0, c0, A1, c1, rfl, g0, g1⟩ := rd_Rule h
 obtain ⟨WX, hWX⟩ : ∃ V, V = (w.alloc (.cells #[.slice A0 (List.length x.1) c0, .slice A1 (List.length x.2) c1] 28)).alloc (.cells #[.slice none 0 0, .slice none 0 0] 28) := ⟨_, rfl⟩
 have hvb : Below w.heap.size w WX := by rw [hWX]; exact b_2
 have bP : Blk WX w.heap.size 28 #[.slice A0 (List.length x.1) c0, .slice A1 (List.length x.2) c1] := by rw [hWX]; exact (Blk.new _ _ _).alloc _
 have bZ : Blk WX (w.heap.size + 1) 28 #[.slice none 0 0, .slice none 0 0] := by rw [hWX]; have := Blk.new (w.alloc (.cells #[.slice A0 (List.length x.1) c0, .slice A1 (List.length x.2) c1] 28)) 28 #[.slice none 0 0, .slice none 0 0]; (try simp only [World.size_alloc] at this); exact this
 have zX : WX.heap.size = w.heap.size + 1 + 1 := by rw [hWX]; simp only [World.size_alloc]
 replace zX := Lib.hid zX
 have r0 := Ty.rd_below hvb g0
 have r1 := Ty.rd_below hvb g1
 clear h g0 g1
 go_enter Tryz.func36, Tryz.ntmps36
 go_wp2_with fail
 rw [← hWX]
 clear hWX
 have HC : Hid (∀ V, Below WX.heap.size WX V → V.cell? ⟨w.heap.size, 0, none⟩ = some (.slice A0 (List.length x.1) c0) ∧ V.cell? ⟨w.heap.size, 1, none⟩ = some (.slice A1 (List.length x.2) c1)) := fun V hV => ⟨(bP.below hV bP.lt).cell 0, (bP.below hV bP.lt).cell 1⟩
 refine wp_region_noPanic ?_
 refine wp_region_held_drew (S := (fun V => V.cell? ⟨w.heap.size, 0, none⟩ = some (.slice A0 (List.length x.1) c0) ∧ V.cell? ⟨w.heap.size, 1, none⟩ = some (.slice A1 (List.length x.2) c1))) b_20 ?_ (fun hHeld => ?_)
 ·exact HC.out _ b_0
 refine tkz4 1 7 2 8 ?_
 try simp only [layz]
 refine tkz2 3 9 ?_
 try simp only [layz]
 refine rz2 0 6 (fun K hK => ?_) (fun K hK => ?_)
 ·go_simp
  refine abs_world (fun V0 hw => ?_)
  obtain ⟨g0, hg0⟩ : ∃ g, g = WX.heap.size := ⟨_, rfl⟩
  rw [← hg0]
  have hb0 : Below WX.heap.size WX V0 := by rw [hw]; exact b_2
  have z0 := hb0.size
  have y0 : g0 < V0.heap.size := by rw [hw, hg0]; (try simp only [szz]); omega
  have x0 : WX.heap.size ≤ g0 := Nat.le_of_eq hg0.symm
  have G0 : GRow .str WX.heap.size [] V0 9 (.slice (some ⟨g0, 0, none⟩) 0 0) [] := by subst hg0; rw [hw]; first | exact GRow.ofRowEx (ex := []) rfl (Row.lit0 flatS WX 9 (base := WX.heap.size) b_12) (fun q hq hm => by cases hm) | exact GRow.drew (GRow.ofRowEx (ex := []) rfl (Row.lit0 flatS WX 9 (base := WX.heap.size) b_12) (fun q hq hm => by cases hm)) | exact GRow.ofRowEx (ex := []) rfl (Row.lit0 flatS WX.drew 9 (base := WX.heap.size) b_12) (fun q hq hm => by cases hm)
  have B0 : Below WX.heap.size WX V0 := hb0
  clear hw hg0
  refine hK.out _ _ (HC.out _ (by first | exact B0 | exact bel_drew B0)) (fun hHeld => ?_)
  clear hK K
  try simp only [layz]
  refine rz2 4 6 (fun K hK => ?_) (fun K hK => ?_)
  ·have z4g := G0.block
   have xb4 : ∀ q ∈ ([] : List Nat), q < V0.heap.size := by intro q hq; cases hq
   refine step_append_grow (e := .str) b_24 _ _ 24 b_24 WX.heap.size [] 9 info_str rfl Tryz.underlying24 (.slice (some ⟨g0, 0, none⟩) 0 0) (.slice A0 (List.length x.1) c0) [] x.1 b_24 b_24 (by first | exact G0 | exact GRow.drew G0) (ASrc.flat rfl (Ty.rd_below (by first | exact B0 | exact bel_drew B0) r0)) ?_ ?_ ?_ ?_ ?_
   ·exact xb4
   ·simp only [List.length_nil]; omega
   ·simp only [List.length_nil]; unfold maxLen; omega
   ·have := B0.size; (try simp only [World.size_drew]); omega
   intro v4 V4 hr hg
   rw [List.nil_append] at hr
   obtain ⟨A4, c4, rfl⟩ := hr.form
   have hgz := hg.size
   (try simp only [szz] at hgz)
   have G4 : GRow .str WX.heap.size [] V4 9 (.slice A4 (List.length x.1) c4) x.1 := hr
   have B4 : Below WX.heap.size WX V4 := bel_grown (by first | exact B0 | exact bel_drew B0) (by (try simp only [World.size_drew]); have := B0.size; omega) hg (fun q hq => by have := z4g q hq; omega)
   clear hr hg z4g xb4
   refine hK.out _ _ (HC.out _ (by first | exact B4 | exact bel_drew B4)) (fun hHeld => ?_)
   clear hK K
   try simp only [layz]
   refine tkz 5 ?_
   try simp only [layz]
   refine rz1 6 (fun K hK => ?_)
   go_simp
   refine abs_world (fun V6 hw => ?_)
   obtain ⟨g6, hg6⟩ : ∃ g, g = V4.heap.size := ⟨_, rfl⟩
   rw [← hg6]
   have hb6 : Below V4.heap.size V4 V6 := by rw [hw]; exact b_2
   have z6 := hb6.size
   have y6 : g6 < V6.heap.size := by rw [hw, hg6]; (try simp only [szz]); omega
   have x6 : V4.heap.size ≤ g6 := Nat.le_of_eq hg6.symm
   have G6 : GRow .str WX.heap.size [] V6 9 (.slice (some ⟨g6, 0, none⟩) 0 0) [] := by subst hg6; rw [hw]; first | exact GRow.ofRowEx (ex := []) rfl (Row.lit0 flatS V4 9 (base := WX.heap.size) b_12) (fun q hq hm => by cases hm) | exact GRow.drew (GRow.ofRowEx (ex := []) rfl (Row.lit0 flatS V4 9 (base := WX.heap.size) b_12) (fun q hq hm => by cases hm)) | exact GRow.ofRowEx (ex := []) rfl (Row.lit0 flatS V4.drew 9 (base := WX.heap.size) b_12) (fun q hq hm => by cases hm)
   have G06 : GRow .str WX.heap.size (g6 :: []) V6 9 (.slice A4 (List.length x.1) c4) x.1 := (GRow.addEx G4 b_22).below hb6
   have B6 : Below WX.heap.size WX V6 := bel_trans B4 (hb6.mono b_22)
   clear hw hg6
   refine hK.out _ _ (HC.out _ (by first | exact B6 | exact bel_drew B6)) (fun hHeld => ?_)
   clear hK K
   try simp only [layz]
   refine rz1 10 (fun K hK => ?_)
   have z10g := G6.block
   have xb10 : ∀ q ∈ ([] : List Nat), q < V6.heap.size := by intro q hq; cases hq
   refine step_append_grow (e := .str) b_24 _ _ 24 b_24 WX.heap.size [] 9 info_str rfl Tryz.underlying24 (.slice (some ⟨g6, 0, none⟩) 0 0) (.slice A1 (List.length x.2) c1) [] x.2 b_24 b_24 (by first | exact G6 | exact GRow.drew G6) (ASrc.flat rfl (Ty.rd_below (by first | exact B6 | exact bel_drew B6) r1)) ?_ ?_ ?_ ?_ ?_
   ·exact xb10
   ·simp only [List.length_nil]; omega
   ·simp only [List.length_nil]; unfold maxLen; omega
   ·have := B6.size; (try simp only [World.size_drew]); omega
   intro v10 V10 hr hg
   rw [List.nil_append] at hr
   obtain ⟨A10, c10, rfl⟩ := hr.form
   have hgz := hg.size
   (try simp only [szz] at hgz)
   have G10 : GRow .str WX.heap.size [] V10 9 (.slice A10 (List.length x.2) c10) x.2 := hr
   have G0x10 : GRow .str WX.heap.size (g6 :: []) V10 9 (.slice A4 (List.length x.1) c4) x.1 := GRow.grown (by first | exact G06 | exact GRow.drew G06) hg (fun q hq => .inr (by simp [Value.ownBlock] at hq; subst hq; simp))
   have B10 : Below WX.heap.size WX V10 := bel_grown (by first | exact B6 | exact bel_drew B6) (by (try simp only [World.size_drew]); have := B6.size; omega) hg (fun q hq => by have := z10g q hq; omega)
   clear hr hg z10g xb10
   refine hK.out _ _ (HC.out _ (by first | exact B10 | exact bel_drew B10)) (fun hHeld => ?_)
   clear hK K
   try simp only [layz]
   refine tkz2 11 12 ?_
   try simp only [layz]
   refine rz1 13 (fun K hK => ?_)
   have bZ2 : Blk V10 (w.heap.size + 1) 28 #[.slice none 0 0, .slice none 0 0] := bZ.below B10 bZ.lt
   obtain ⟨p0, p1, q0, q1⟩ := blk2r bZ2
   have zp := bZ2.lt
   go_simp
   refine abs_world (fun VZ hw => ?_)
   obtain ⟨hZ, hk, hs, -⟩ := stored2rd (v0 := .slice A4 (List.length x.1) c4) (v1 := .slice A10 (List.length x.2) c10) bZ2 b_13
   have BZ : Below w.heap.size w VZ := by have := bel_trans hvb (B10.mono b_22); rw [hw]; exact b_2
   have ZXX := zX.out
   have QA := (G0x10.rdI).keep hs (fun q h3 h4 => hk q b_22)
   have QB := (G10.rdI).keep hs (fun q h3 h4 => hk q b_22)
   have bP2 : Blk VZ w.heap.size 28 #[.slice A0 (List.length x.1) c0, .slice A1 (List.length x.2) c1] := (hk _ b_22).trans (bP.below B10 bP.lt)
   clear hw hk p0 p1 q0 q1
   refine hK.out _ _ (⟨bP2.cell 0, bP2.cell 1⟩) (fun hHeld => ?_)
   clear hK K
   try simp only [layz]
   refine wpAnyH_done b_20 ?_ _
   refine NoPanic.normal ?_
   obtain ⟨p0, p1, -⟩ := blk2r hZ
   go_wp2
   refine bodyPost_ret (v := .agg #[.slice A4 (List.length x.1) c4, .slice A10 (List.length x.2) c10]) (by simp [results, Tryz.results36, go_sem, p0, p1]) rfl ?_
   exact ⟨_, rfl, RdI.pr (QA.mono b_22 QA.1 (Nat.le_refl _) : RdI (.sl .str) w.heap.size VZ.heap.size VZ [_] x.1) (QB.mono b_22 QB.1 (Nat.le_refl _)), BZ⟩
  ·go_simp
   refine abs_world (fun V6 hw => ?_)
   obtain ⟨g6, hg6⟩ : ∃ g, g = V0.heap.size := ⟨_, rfl⟩
   rw [← hg6]
   have hb6 : Below V0.heap.size V0 V6 := by rw [hw]; exact b_2
   have z6 := hb6.size
   have y6 : g6 < V6.heap.size := by rw [hw, hg6]; (try simp only [szz]); omega
   have x6 : V0.heap.size ≤ g6 := Nat.le_of_eq hg6.symm
   have G6 : GRow .str WX.heap.size [g0] V6 9 (.slice (some ⟨g6, 0, none⟩) 0 0) [] := by subst hg6; rw [hw]; first | exact GRow.ofRowEx (ex := [g0]) rfl (Row.lit0 flatS V0 9 (base := WX.heap.size) b_12) (fun q hq hm => by simp [Value.ownBlock] at hq hm; omega) | exact GRow.drew (GRow.ofRowEx (ex := [g0]) rfl (Row.lit0 flatS V0 9 (base := WX.heap.size) b_12) (fun q hq hm => by simp [Value.ownBlock] at hq hm; omega)) | exact GRow.ofRowEx (ex := [g0]) rfl (Row.lit0 flatS V0.drew 9 (base := WX.heap.size) b_12) (fun q hq hm => by simp [Value.ownBlock] at hq hm; omega)
   have G06 : GRow .str WX.heap.size (g6 :: []) V6 9 (.slice (some ⟨g0, 0, none⟩) 0 0) [] := (GRow.addEx G0 b_22).below hb6
   have B6 : Below WX.heap.size WX V6 := bel_trans B0 (hb6.mono b_22)
   clear hw hg6
   refine hK.out _ _ (HC.out _ (by first | exact B6 | exact bel_drew B6)) (fun hHeld => ?_)
   clear hK K
   try simp only [layz]
   refine rz1 4 (fun K hK => ?_)
   have z4g := G06.block
   have xb4 : ∀ q ∈ (g6 :: []), q < V6.heap.size := by intro q hq; simp at hq; omega
   refine step_append_grow (e := .str) b_24 _ _ 24 b_24 WX.heap.size (g6 :: []) 9 info_str rfl Tryz.underlying24 (.slice (some ⟨g0, 0, none⟩) 0 0) (.slice A0 (List.length x.1) c0) [] x.1 b_24 b_24 (by first | exact G06 | exact GRow.drew G06) (ASrc.flat rfl (Ty.rd_below (by first | exact B6 | exact bel_drew B6) r0)) ?_ ?_ ?_ ?_ ?_
   ·exact xb4
   ·simp only [List.length_nil]; omega
   ·simp only [List.length_nil]; unfold maxLen; omega
   ·have := B6.size; (try simp only [World.size_drew]); omega
   intro v4 V4 hr hg
   rw [List.nil_append] at hr
   obtain ⟨A4, c4, rfl⟩ := hr.form
   have hgz := hg.size
   (try simp only [szz] at hgz)
   have G4 : GRow .str WX.heap.size (g6 :: []) V4 9 (.slice A4 (List.length x.1) c4) x.1 := hr
   have G6x4 : GRow .str WX.heap.size [g0] V4 9 (.slice (some ⟨g6, 0, none⟩) 0 0) [] := GRow.grown (by first | exact G6 | exact GRow.drew G6) hg (fun q hq => .inr (by simp [Value.ownBlock] at hq; subst hq; simp))
   have B4 : Below WX.heap.size WX V4 := bel_grown (by first | exact B6 | exact bel_drew B6) (by (try simp only [World.size_drew]); have := B6.size; omega) hg (fun q hq => by have := z4g q hq; omega)
   clear hr hg z4g xb4
   refine hK.out _ _ (HC.out _ (by first | exact B4 | exact bel_drew B4)) (fun hHeld => ?_)
   clear hK K
   try simp only [layz]
   refine tkz 5 ?_
   try simp only [layz]
   refine rz1 10 (fun K hK => ?_)
   have z10g := G6x4.block
   have xb10 : ∀ q ∈ [g0], q < V4.heap.size := by intro q hq; simp at hq; omega
   refine step_append_grow (e := .str) b_24 _ _ 24 b_24 WX.heap.size [g0] 9 info_str rfl Tryz.underlying24 (.slice (some ⟨g6, 0, none⟩) 0 0) (.slice A1 (List.length x.2) c1) [] x.2 b_24 b_24 (by first | exact G6x4 | exact GRow.drew G6x4) (ASrc.flat rfl (Ty.rd_below (by first | exact B4 | exact bel_drew B4) r1)) ?_ ?_ ?_ ?_ ?_
   ·exact xb10
   ·simp only [List.length_nil]; omega
   ·simp only [List.length_nil]; unfold maxLen; omega
   ·have := B4.size; (try simp only [World.size_drew]); omega
   intro v10 V10 hr hg
   rw [List.nil_append] at hr
   obtain ⟨A10, c10, rfl⟩ := hr.form
   have hgz := hg.size
   (try simp only [szz] at hgz)
   have G10 : GRow .str WX.heap.size [g0] V10 9 (.slice A10 (List.length x.2) c10) x.2 := hr
   have G0x10 : GRow .str WX.heap.size (g6 :: []) V10 9 (.slice A4 (List.length x.1) c4) x.1 := GRow.grown (by first | exact G4 | exact GRow.drew G4) hg (fun q hq => .inr (by simp [Value.ownBlock] at hq; subst hq; simp))
   have B10 : Below WX.heap.size WX V10 := bel_grown (by first | exact B4 | exact bel_drew B4) (by (try simp only [World.size_drew]); have := B4.size; omega) hg (fun q hq => by have := z10g q hq; omega)
   clear hr hg z10g xb10
   refine hK.out _ _ (HC.out _ (by first | exact B10 | exact bel_drew B10)) (fun hHeld => ?_)
   clear hK K
   try simp only [layz]
   refine tkz2 11 12 ?_
   try simp only [layz]
   refine rz1 13 (fun K hK => ?_)
   have bZ2 : Blk V10 (w.heap.size + 1) 28 #[.slice none 0 0, .slice none 0 0] := bZ.below B10 bZ.lt
   obtain ⟨p0, p1, q0, q1⟩ := blk2r bZ2
   have zp := bZ2.lt
   go_simp
   refine abs_world (fun VZ hw => ?_)
   obtain ⟨hZ, hk, hs, -⟩ := stored2rd (v0 := .slice A4 (List.length x.1) c4) (v1 := .slice A10 (List.length x.2) c10) bZ2 b_13
   have BZ : Below w.heap.size w VZ := by have := bel_trans hvb (B10.mono b_22); rw [hw]; exact b_2
   have ZXX := zX.out
   have QA := (G0x10.rdI).keep hs (fun q h3 h4 => hk q b_22)
   have QB := (G10.rdI).keep hs (fun q h3 h4 => hk q b_22)
   have bP2 : Blk VZ w.heap.size 28 #[.slice A0 (List.length x.1) c0, .slice A1 (List.length x.2) c1] := (hk _ b_22).trans (bP.below B10 bP.lt)
   clear hw hk p0 p1 q0 q1
   refine hK.out _ _ (⟨bP2.cell 0, bP2.cell 1⟩) (fun hHeld => ?_)
   clear hK K
   try simp only [layz]
   refine wpAnyH_done b_20 ?_ _
   refine NoPanic.normal ?_
   obtain ⟨p0, p1, -⟩ := blk2r hZ
   go_wp2
   refine bodyPost_ret (v := .agg #[.slice A4 (List.length x.1) c4, .slice A10 (List.length x.2) c10]) (by simp [results, Tryz.results36, go_sem, p0, p1]) rfl ?_
   exact ⟨_, rfl, RdI.pr (QA.mono b_22 QA.1 (Nat.le_refl _) : RdI (.sl .str) w.heap.size VZ.heap.size VZ [_] x.1) (QB.mono b_22 QB.1 (Nat.le_refl _)), BZ⟩
 ·go_simp
  refine abs_world (fun V6 hw => ?_)
  obtain ⟨g6, hg6⟩ : ∃ g, g = WX.heap.size := ⟨_, rfl⟩
  rw [← hg6]
  have hb6 : Below WX.heap.size WX V6 := by rw [hw]; exact b_2
  have z6 := hb6.size
  have y6 : g6 < V6.heap.size := by rw [hw, hg6]; (try simp only [szz]); omega
  have x6 : WX.heap.size ≤ g6 := Nat.le_of_eq hg6.symm
  have G6 : GRow .str WX.heap.size [] V6 9 (.slice (some ⟨g6, 0, none⟩) 0 0) [] := by subst hg6; rw [hw]; first | exact GRow.ofRowEx (ex := []) rfl (Row.lit0 flatS WX 9 (base := WX.heap.size) b_12) (fun q hq hm => by cases hm) | exact GRow.drew (GRow.ofRowEx (ex := []) rfl (Row.lit0 flatS WX 9 (base := WX.heap.size) b_12) (fun q hq hm => by cases hm)) | exact GRow.ofRowEx (ex := []) rfl (Row.lit0 flatS WX.drew 9 (base := WX.heap.size) b_12) (fun q hq hm => by cases hm)
  have B6 : Below WX.heap.size WX V6 := hb6
  clear hw hg6
  refine hK.out _ _ (HC.out _ (by first | exact B6 | exact bel_drew B6)) (fun hHeld => ?_)
  clear hK K
  try simp only [layz]
  refine rz1 0 (fun K hK => ?_)
  go_simp
  refine abs_world (fun V0 hw => ?_)
  obtain ⟨g0, hg0⟩ : ∃ g, g = V6.heap.size := ⟨_, rfl⟩
  rw [← hg0]
  have hb0 : Below V6.heap.size V6 V0 := by rw [hw]; exact b_2
  have z0 := hb0.size
  have y0 : g0 < V0.heap.size := by rw [hw, hg0]; (try simp only [szz]); omega
  have x0 : V6.heap.size ≤ g0 := Nat.le_of_eq hg0.symm
  have G0 : GRow .str WX.heap.size [g6] V0 9 (.slice (some ⟨g0, 0, none⟩) 0 0) [] := by subst hg0; rw [hw]; first | exact GRow.ofRowEx (ex := [g6]) rfl (Row.lit0 flatS V6 9 (base := WX.heap.size) b_12) (fun q hq hm => by simp [Value.ownBlock] at hq hm; omega) | exact GRow.drew (GRow.ofRowEx (ex := [g6]) rfl (Row.lit0 flatS V6 9 (base := WX.heap.size) b_12) (fun q hq hm => by simp [Value.ownBlock] at hq hm; omega)) | exact GRow.ofRowEx (ex := [g6]) rfl (Row.lit0 flatS V6.drew 9 (base := WX.heap.size) b_12) (fun q hq hm => by simp [Value.ownBlock] at hq hm; omega)
  have G60 : GRow .str WX.heap.size (g0 :: []) V0 9 (.slice (some ⟨g6, 0, none⟩) 0 0) [] := (GRow.addEx G6 b_22).below hb0
  have B0 : Below WX.heap.size WX V0 := bel_trans B6 (hb0.mono b_22)
  clear hw hg0
  refine hK.out _ _ (HC.out _ (by first | exact B0 | exact bel_drew B0)) (fun hHeld => ?_)
  clear hK K
  try simp only [layz]
  refine rz1 4 (fun K hK => ?_)
  have z4g := G0.block
  have xb4 : ∀ q ∈ [g6], q < V0.heap.size := by intro q hq; simp at hq; omega
  refine step_append_grow (e := .str) b_24 _ _ 24 b_24 WX.heap.size [g6] 9 info_str rfl Tryz.underlying24 (.slice (some ⟨g0, 0, none⟩) 0 0) (.slice A0 (List.length x.1) c0) [] x.1 b_24 b_24 (by first | exact G0 | exact GRow.drew G0) (ASrc.flat rfl (Ty.rd_below (by first | exact B0 | exact bel_drew B0) r0)) ?_ ?_ ?_ ?_ ?_
  ·exact xb4
  ·simp only [List.length_nil]; omega
  ·simp only [List.length_nil]; unfold maxLen; omega
  ·have := B0.size; (try simp only [World.size_drew]); omega
  intro v4 V4 hr hg
  rw [List.nil_append] at hr
  obtain ⟨A4, c4, rfl⟩ := hr.form
  have hgz := hg.size
  (try simp only [szz] at hgz)
  have G4 : GRow .str WX.heap.size [g6] V4 9 (.slice A4 (List.length x.1) c4) x.1 := hr
  have G6x4 : GRow .str WX.heap.size (g0 :: []) V4 9 (.slice (some ⟨g6, 0, none⟩) 0 0) [] := GRow.grown (by first | exact G60 | exact GRow.drew G60) hg (fun q hq => .inr (by simp [Value.ownBlock] at hq; subst hq; simp))
  have B4 : Below WX.heap.size WX V4 := bel_grown (by first | exact B0 | exact bel_drew B0) (by (try simp only [World.size_drew]); have := B0.size; omega) hg (fun q hq => by have := z4g q hq; omega)
  clear hr hg z4g xb4
  refine hK.out _ _ (HC.out _ (by first | exact B4 | exact bel_drew B4)) (fun hHeld => ?_)
  clear hK K
  try simp only [layz]
  refine tkz 5 ?_
  try simp only [layz]
  refine rz1 10 (fun K hK => ?_)
  have z10g := G6x4.block
  have xb10 : ∀ q ∈ (g0 :: []), q < V4.heap.size := by intro q hq; simp at hq; omega
  refine step_append_grow (e := .str) b_24 _ _ 24 b_24 WX.heap.size (g0 :: []) 9 info_str rfl Tryz.underlying24 (.slice (some ⟨g6, 0, none⟩) 0 0) (.slice A1 (List.length x.2) c1) [] x.2 b_24 b_24 (by first | exact G6x4 | exact GRow.drew G6x4) (ASrc.flat rfl (Ty.rd_below (by first | exact B4 | exact bel_drew B4) r1)) ?_ ?_ ?_ ?_ ?_
  ·exact xb10
  ·simp only [List.length_nil]; omega
  ·simp only [List.length_nil]; unfold maxLen; omega
  ·have := B4.size; (try simp only [World.size_drew]); omega
  intro v10 V10 hr hg
  rw [List.nil_append] at hr
  obtain ⟨A10, c10, rfl⟩ := hr.form
  have hgz := hg.size
  (try simp only [szz] at hgz)
  have G10 : GRow .str WX.heap.size (g0 :: []) V10 9 (.slice A10 (List.length x.2) c10) x.2 := hr
  have G0x10 : GRow .str WX.heap.size [g6] V10 9 (.slice A4 (List.length x.1) c4) x.1 := GRow.grown (by first | exact G4 | exact GRow.drew G4) hg (fun q hq => .inr (by simp [Value.ownBlock] at hq; subst hq; simp))
  have B10 : Below WX.heap.size WX V10 := bel_grown (by first | exact B4 | exact bel_drew B4) (by (try simp only [World.size_drew]); have := B4.size; omega) hg (fun q hq => by have := z10g q hq; omega)
  clear hr hg z10g xb10
  refine hK.out _ _ (HC.out _ (by first | exact B10 | exact bel_drew B10)) (fun hHeld => ?_)
  clear hK K
  try simp only [layz]
  refine tkz2 11 12 ?_
  try simp only [layz]
  refine rz1 13 (fun K hK => ?_)
  have bZ2 : Blk V10 (w.heap.size + 1) 28 #[.slice none 0 0, .slice none 0 0] := bZ.below B10 bZ.lt
  obtain ⟨p0, p1, q0, q1⟩ := blk2r bZ2
  have zp := bZ2.lt
  go_simp
  refine abs_world (fun VZ hw => ?_)
  obtain ⟨hZ, hk, hs, -⟩ := stored2rd (v0 := .slice A4 (List.length x.1) c4) (v1 := .slice A10 (List.length x.2) c10) bZ2 b_13
  have BZ : Below w.heap.size w VZ := by have := bel_trans hvb (B10.mono b_22); rw [hw]; exact b_2
  have ZXX := zX.out
  have QA := (G0x10.rdI).keep hs (fun q h3 h4 => hk q b_22)
  have QB := (G10.rdI).keep hs (fun q h3 h4 => hk q b_22)
  have bP2 : Blk VZ w.heap.size 28 #[.slice A0 (List.length x.1) c0, .slice A1 (List.length x.2) c1] := (hk _ b_22).trans (bP.below B10 bP.lt)
  clear hw hk p0 p1 q0 q1
  refine hK.out _ _ (⟨bP2.cell 0, bP2.cell 1⟩) (fun hHeld => ?_)
  clear hK K
  try simp only [layz]
  refine wpAnyH_done b_20 ?_ _
  refine NoPanic.normal ?_
  obtain ⟨p0, p1, -⟩ := blk2r hZ
  go_wp2
  refine bodyPost_ret (v := .agg #[.slice A4 (List.length x.1) c4, .slice A10 (List.length x.2) c10]) (by simp [results, Tryz.results36, go_sem, p0, p1]) rfl ?_
  exact ⟨_, rfl, RdI.pr (QA.mono b_22 QA.1 (Nat.le_refl _) : RdI (.sl .str) w.heap.size VZ.heap.size VZ [_] x.1) (QB.mono b_22 QB.1 (Nat.le_refl _)), BZ⟩
set_option maxRecDepth 100000 in
set_option maxHeartbeats 4000000 in
theorem C_spec_DrawFormatRule (w : World) (v : Value) (b : List UInt8) (h : (Ty.sl .byte).rd w [v] b) :
  Calls Tryz.prog 10 #[v] w (fun e w' => (∃ cs x, e = .returned (.agg cs.toArray) ∧ tRule.rd w' cs x ∧ okRule x) ∧ Below w.heap.size w w') := by
 obtain ⟨Ac, cc, rfl, _, _, _⟩ := Ty.rd_sl h
 go_enter Tryz.func10, Tryz.ntmps10
 go_wp2_with fail
 refine Calls.mono (C_spec_l1New _ _ b (Ty.rd_below b_2 h)) ?_
 rintro e w1 ⟨rfl, hb1, hc1⟩
 (try simp only [World.size_alloc] at hc1 ⊢)
 have z1 := hc1.lt
 have hO1 : Blk w1 (w.heap.size) 28 #[.slice none 0 0, .slice none 0 0] := by
  have := Blk.new w 28 #[.slice none 0 0, .slice none 0 0]
  (try simp only [World.size_alloc] at this)
  exact Blk.below this hb1 b_11
 have D1 : Dr (w.heap.size + 1) w w1 := Dr.of (bel_trans b_2 hb1) _
 clear hb1
 go_wp2_with fail
 refine Calls.mono (C_spec_l10One _ (w.heap.size + 1) b_4) ?_
 rintro e w2 ⟨hd2, hc2, cs2, x, rfl, q2, hok⟩
 have E2 : Dr (w.heap.size + 1) w1 w2 := b_1
 have z2 := E2.size
 obtain ⟨X0, Xa, X1, Xb, rfl, -, -⟩ := rd_Rule q2.rd
 (try simp only [World.size_alloc, World.size_drew, size_drewN] at q2)
 have hO2 := Dr.blk E2 hO1 b_22
 clear hO1
 have D2 := D1.trans E2
 clear hd2 E2 D1 hc1
 obtain ⟨o0, o1, g0, g1⟩ := blk2r hO2
 have zo := hO2.lt
 obtain ⟨wz, hwz⟩ : ∃ V, V = ((w2.setCell ⟨w.heap.size, 0, none⟩ (.slice X0 (List.length x.1) Xa)).setCell ⟨w.heap.size, 1, none⟩ (.slice X1 (List.length x.2) Xb)) := ⟨_, rfl⟩
 obtain ⟨-, hk, hs, F⟩ := stored2r hO2 hwz
 have QZ := Lib.hid (q2.keep hs (fun q h1 h2 => hk q b_22)).rd
 have DZ := Lib.hid (F (w.heap.size + 1) w (Nat.le_refl _) D2)
 clear q2 hk hs F D2
 go_wp2
 refine bodyPost_ret (v := .agg #[.slice X0 (List.length x.1) Xa, .slice X1 (List.length x.2) Xb]) (by simp [results, Tryz.results10, go_sem, o0, o1, g0, g1, zo]) rfl ?_
 rw [← hwz]
 exact ⟨⟨_, x, rfl, QZ.out, hok⟩, Dr.below DZ.out b_22 (Nat.le_refl _)⟩
set_option maxRecDepth 100000 in
set_option maxHeartbeats 4000000 in
theorem C_spec_DrawParseRule (w : World) (v : Value) (b : List UInt8) (h : (Ty.sl .byte).rd w [v] b) :
  Calls Tryz.prog 7 #[v] w (fun e w' => (∃ s, e = .returned (vS s) ∧ s.length ≤ 1000) ∧ Below w.heap.size w w') := by
 obtain ⟨Ac, cc, rfl, _, _, _⟩ := Ty.rd_sl h
 go_enter Tryz.func7, Tryz.ntmps7
 go_wp2_with fail
 refine Calls.mono (C_spec_l1New _ _ b (Ty.rd_below b_2 h)) ?_
 rintro e w1 ⟨rfl, hb1, hc1⟩
 (try simp only [World.size_alloc] at hc1 ⊢)
 have z1 := hc1.lt
 have D1 : Dr w.heap.size w w1 := Dr.of (bel_trans b_2 hb1) _
 clear hb1
 go_wp2_with fail
 refine Calls.mono (C_spec_l1Once _ w.heap.size 3 b_4 b_21 b_21) ?_
 rintro e w2 ⟨hd2, hc2, bo, rfl⟩
 have E2 : Dr w.heap.size w1 w2 := b_1
 have z2 := E2.size
 have D2 := D1.trans E2
 clear hd2 E2 D1 hc1
 cases bo with
 | true =>
  go_wp2_with fail
  refine Calls.mono (C_spec_l1Str _ w.heap.size _ [[], [47, 97, 32, 60, 32], [47, 97, 32, 60, 47, 98], [47, 97, 32, 60, 32, 47, 63, 120], [47, 63, 120, 47, 42, 42, 32, 60, 32, 47, 63, 120, 47, 107, 101, 121], [47, 97, 32, 62, 32, 47, 98], [47, 32, 60, 32, 47]] b_4 b_3 b_21 b_21) ?_
  rintro e w3 ⟨hd3, hc3, s, hs, rfl⟩
  have E3 : Dr w.heap.size w2 w3 := b_1
  go_wp2
  go_ret
  exact ⟨⟨s, rfl, rt_len hs⟩, Dr.below (D2.trans E3) (Nat.le_refl _) (Nat.le_refl _)⟩
 | false =>
  go_wp2_with fail
  refine Calls.mono (C_spec_l10One _ w.heap.size b_4) ?_
  rintro e w3 ⟨hd3, hc3, cs3, x, rfl, q3, hok⟩
  have E3 : Dr w.heap.size w2 w3 := b_1
  have D3 := D2.trans E3
  clear hd3
  go_wp2_with fail
  refine Calls.mono (C_spec_FormatRule _ _ x q3.rd (Nat.le_trans (rule_bulk hok) b_21)) ?_
  rintro e w4 ⟨rfl, hb4⟩
  have D4 := D3.then_ hb4
  go_wp2
  go_ret
  exact ⟨⟨_, rfl, fmt_okRule hok⟩, Dr.below (D4) (Nat.le_refl _) (Nat.le_refl _)⟩
set_option maxRecDepth 100000 in
set_option maxHeartbeats 4000000 in
theorem C_spec_DrawRuleAllows (w : World) (v : Value) (b : List UInt8) (h : (Ty.sl .byte).rd w [v] b) :
  Calls Tryz.prog 5 #[v] w (fun e w' => (∃ cs x N0 n Na K0 k Ka, e = .returned (.tuple #[.agg cs.toArray, .agg #[.slice N0 (List.length n) Na], .agg #[.slice K0 (List.length k) Ka]]) ∧ tRule.rd w' cs x ∧ okRule x ∧ (Ty.sl .str).rd w' [.slice N0 (List.length n) Na] n ∧ okAny n ∧ (Ty.sl .str).rd w' [.slice K0 (List.length k) Ka] k ∧ okAny k) ∧ Below w.heap.size w w') := by
 obtain ⟨Ac, cc, rfl, _, _, _⟩ := Ty.rd_sl h
 go_enter Tryz.func5, Tryz.ntmps5
 go_wp2_with fail
 refine Calls.mono (C_spec_l1New _ _ b (Ty.rd_below b_2 h)) ?_
 rintro e w1 ⟨rfl, hb1, hc1⟩
 (try simp only [World.size_alloc] at hc1 ⊢)
 have z1 := hc1.lt
 have hO1 : Blk w1 (w.heap.size) 28 #[.slice none 0 0, .slice none 0 0] := by
  have := Blk.new w 28 #[.slice none 0 0, .slice none 0 0]
  (try simp only [World.size_alloc] at this)
  exact Blk.below (Blk.alloc (Blk.alloc this _) _) hb1 b_11
 have hP1 : Blk w1 (w.heap.size + 1) 29 #[.slice none 0 0] := by
  have := Blk.new (w.alloc (.cells #[.slice none 0 0, .slice none 0 0] 28)) 29 #[.slice none 0 0]
  (try simp only [World.size_alloc] at this)
  exact Blk.below (Blk.alloc this _) hb1 b_11
 have hQ1 : Blk w1 (w.heap.size + 1 + 1) 29 #[.slice none 0 0] := by
  have := Blk.new ((w.alloc (.cells #[.slice none 0 0, .slice none 0 0] 28)).alloc (.cells #[.slice none 0 0] 29)) 29 #[.slice none 0 0]
  (try simp only [World.size_alloc] at this)
  exact Blk.below this hb1 b_11
 have D1 : Dr (w.heap.size + 1 + 1 + 1) w w1 := Dr.of (bel_trans b_2 hb1) _
 clear hb1
 go_wp2_with fail
 refine Calls.mono (C_spec_l10One _ (w.heap.size + 1 + 1 + 1) b_4) ?_
 rintro e w2 ⟨hd2, hc2, cs2, x, rfl, qx2, hokx⟩
 have E2 : Dr (w.heap.size + 1 + 1 + 1) w1 w2 := b_1
 have z2 := E2.size
 obtain ⟨X0, Xa, X1, Xb, rfl, -, -⟩ := rd_Rule qx2.rd
 (try simp only [World.size_alloc, World.size_drew, size_drewN] at qx2)
 have hO2 := Dr.blk E2 hO1 b_22
 have hP2 := Dr.blk E2 hP1 b_22
 have hQ2 := Dr.blk E2 hQ1 b_22
 clear hO1 hP1 hQ1
 have D2 := D1.trans E2
 clear hd2 E2 D1 hc1
 obtain ⟨w3, hw3⟩ : ∃ V, V = (w2.alloc (.cells #[.slice X0 (List.length x.1) Xa, .slice X1 (List.length x.2) Xb] 28)) := ⟨_, rfl⟩
 have E3 : Dr (w.heap.size + 1 + 1 + 1) w2 w3 := by rw [hw3]; exact new_dr _ w2 _
 have hc3 : CurT w3 (w.heap.size + 1 + 1 + 1) := by rw [hw3]; exact hc2.alloc _
 have hO3 := Dr.blk E3 hO2 b_22
 have hP3 := Dr.blk E3 hP2 b_22
 have hQ3 := Dr.blk E3 hQ2 b_22
 have qx3 := qx2.dr E3 b_22
 clear hO2 hP2 hQ2 qx2
 have hR3 : Blk w3 (w2.heap.size) 28 #[.slice X0 (List.length x.1) Xa, .slice X1 (List.length x.2) Xb] := by rw [hw3]; have := Blk.new w2 28 #[.slice X0 (List.length x.1) Xa, .slice X1 (List.length x.2) Xb]; (try simp only [World.size_alloc] at this); exact this
 have z3 := hR3.lt
 have D3 := D2.trans E3
 clear E3 D2 hc2
 go_wp2_with fail
 rw [← hw3]
 (try rw [show w2.heap.size + 1 = w3.heap.size from by rw [hw3]; simp only [World.size_alloc]])
 clear hw3
 refine Calls.mono (C_spec_l10Names _ (w.heap.size + 1 + 1 + 1) b_4) ?_
 rintro e w4 ⟨hd4, hc4, N0, n, Na, K0, k, Ka, rfl, qn4, hokn, qk4, hokk⟩
 have E4 : Dr (w.heap.size + 1 + 1 + 1) w3 w4 := b_1
 have z4 := E4.size
 (try simp only [World.size_alloc, World.size_drew, size_drewN] at qn4)
 (try simp only [World.size_alloc, World.size_drew, size_drewN] at qk4)
 have hO4 := Dr.blk E4 hO3 b_22
 have hP4 := Dr.blk E4 hP3 b_22
 have hQ4 := Dr.blk E4 hQ3 b_22
 have hR4 := Dr.blk E4 hR3 b_22
 have qx4 := qx3.dr E4 b_22
 clear hO3 hP3 hQ3 hR3 qx3
 have D4 := D3.trans E4
 clear hd4 E4 D3 hc3
 obtain ⟨w5, hw5⟩ : ∃ V, V = ((w4.alloc (.cells #[.slice N0 (List.length n) Na] 29)).alloc (.cells #[.slice K0 (List.length k) Ka] 29)) := ⟨_, rfl⟩
 have E5 : Dr (w.heap.size + 1 + 1 + 1) w4 w5 := by rw [hw5]; exact (new_dr _ w4 _).alloc _
 have hc5 : CurT w5 (w.heap.size + 1 + 1 + 1) := by rw [hw5]; exact (hc4.alloc _).alloc _
 have hO5 := Dr.blk E5 hO4 b_22
 have hP5 := Dr.blk E5 hP4 b_22
 have hQ5 := Dr.blk E5 hQ4 b_22
 have hR5 := Dr.blk E5 hR4 b_22
 have qx5 := qx4.dr E5 b_22
 have qn5 := qn4.dr E5 b_22
 have qk5 := qk4.dr E5 b_22
 clear hO4 hP4 hQ4 hR4 qx4 qn4 qk4
 have hN5 : Blk w5 (w4.heap.size) 29 #[.slice N0 (List.length n) Na] := by rw [hw5]; have := Blk.new w4 29 #[.slice N0 (List.length n) Na]; (try simp only [World.size_alloc] at this); exact (Blk.alloc this _)
 have hK5 : Blk w5 (w4.heap.size + 1) 29 #[.slice K0 (List.length k) Ka] := by rw [hw5]; have := Blk.new (w4.alloc (.cells #[.slice N0 (List.length n) Na] 29)) 29 #[.slice K0 (List.length k) Ka]; (try simp only [World.size_alloc] at this); exact this
 have z5 := hK5.lt
 have D5 := D4.trans E5
 clear E5 D4 hc4
 go_wp2_with fail
 rw [← hw5]
 (try rw [show w4.heap.size + 1 + 1 = w5.heap.size from by rw [hw5]; simp only [World.size_alloc]])
 clear hw5
 refine wp_region_noPanic ?_
 refine wp_region_held_drew (S := (fun V => V.cell? ⟨w2.heap.size, 0, none⟩ = some (.slice X0 (List.length x.1) Xa) ∧ V.cell? ⟨w2.heap.size, 1, none⟩ = some (.slice X1 (List.length x.2) Xb) ∧ V.cell? ⟨w4.heap.size, 0, none⟩ = some (.slice N0 (List.length n) Na) ∧ V.cell? ⟨w4.heap.size + 1, 0, none⟩ = some (.slice K0 (List.length k) Ka))) b_20 ?_ (fun hHeld => ?_)
 ·exact ⟨hR5.cell 0, hR5.cell 1, hN5.cell 0, hK5.cell 0⟩
 refine tkz3 0 1 2 ?_
 try simp only [layz]
 refine rz1 3 (fun K hK => ?_)
 obtain ⟨p0, p1, g0, g1⟩ := blk2r hO5
 have zp := hO5.lt
 go_simp
 refine abs_world (fun wa hw => ?_)
 obtain ⟨hOa, hk, hs, F⟩ := stored2rd (v0 := .slice X0 (List.length x.1) Xa) (v1 := .slice X1 (List.length x.2) Xb) hO5 b_13
 have Da := F (w.heap.size + 1 + 1 + 1) w b_22 D5
 have hPa : Blk wa (w.heap.size + 1) 29 #[.slice none 0 0] := (hk _ b_22).trans hP5
 have hQa : Blk wa (w.heap.size + 1 + 1) 29 #[.slice none 0 0] := (hk _ b_22).trans hQ5
 have hRa : Blk wa (w2.heap.size) 28 #[.slice X0 (List.length x.1) Xa, .slice X1 (List.length x.2) Xb] := (hk _ b_22).trans hR5
 have hNa : Blk wa (w4.heap.size) 29 #[.slice N0 (List.length n) Na] := (hk _ b_22).trans hN5
 have hKa : Blk wa (w4.heap.size + 1) 29 #[.slice K0 (List.length k) Ka] := (hk _ b_22).trans hK5
 have qxa := qx5.keep hs (fun x h1 h2 => hk x b_22)
 have qna := qn5.keep hs (fun x h1 h2 => hk x b_22)
 have qka := qk5.keep hs (fun x h1 h2 => hk x b_22)
 (try simp only [World.size_drew] at hs)
 have za := hs
 clear hw hk hs F zp p0 g0 p1 g1 D5 hO5 hP5 hQ5 hR5 hN5 hK5 qx5 qn5 qk5
 refine hK.out _ _ (⟨hRa.cell 0, hRa.cell 1, hNa.cell 0, hKa.cell 0⟩) (fun hHeld => ?_)
 clear hK K
 try simp only [layz]
 refine rz1 4 (fun K hK => ?_)
 obtain ⟨p0, g0⟩ := blk1 hPa
 have zp := hPa.lt
 go_simp
 refine abs_world (fun wb hw => ?_)
 obtain ⟨hPb, hk, hs, -, F⟩ := stored1d (v0 := .slice N0 (List.length n) Na) hPa b_13
 have Db := F (w.heap.size + 1 + 1 + 1) w b_22 Da
 have hOb : Blk wb (w.heap.size) 28 #[.slice X0 (List.length x.1) Xa, .slice X1 (List.length x.2) Xb] := (hk _ b_22).trans hOa
 have hQb : Blk wb (w.heap.size + 1 + 1) 29 #[.slice none 0 0] := (hk _ b_22).trans hQa
 have hRb : Blk wb (w2.heap.size) 28 #[.slice X0 (List.length x.1) Xa, .slice X1 (List.length x.2) Xb] := (hk _ b_22).trans hRa
 have hNb : Blk wb (w4.heap.size) 29 #[.slice N0 (List.length n) Na] := (hk _ b_22).trans hNa
 have hKb : Blk wb (w4.heap.size + 1) 29 #[.slice K0 (List.length k) Ka] := (hk _ b_22).trans hKa
 have qxb := qxa.keep hs (fun x h1 h2 => hk x b_22)
 have qnb := qna.keep hs (fun x h1 h2 => hk x b_22)
 have qkb := qka.keep hs (fun x h1 h2 => hk x b_22)
 (try simp only [World.size_drew] at hs)
 have zb := hs
 clear hw hk hs F zp p0 g0 Da hOa hPa hQa hRa hNa hKa qxa qna qka
 refine hK.out _ _ (⟨hRb.cell 0, hRb.cell 1, hNb.cell 0, hKb.cell 0⟩) (fun hHeld => ?_)
 clear hK K
 try simp only [layz]
 refine rz1 5 (fun K hK => ?_)
 obtain ⟨p0, g0⟩ := blk1 hQb
 have zp := hQb.lt
 go_simp
 refine abs_world (fun wc hw => ?_)
 obtain ⟨hQc, hk, hs, -, F⟩ := stored1d (v0 := .slice K0 (List.length k) Ka) hQb b_13
 have Dc := F (w.heap.size + 1 + 1 + 1) w b_22 Db
 have hOc : Blk wc (w.heap.size) 28 #[.slice X0 (List.length x.1) Xa, .slice X1 (List.length x.2) Xb] := (hk _ b_22).trans hOb
 have hPc : Blk wc (w.heap.size + 1) 29 #[.slice N0 (List.length n) Na] := (hk _ b_22).trans hPb
 have hRc : Blk wc (w2.heap.size) 28 #[.slice X0 (List.length x.1) Xa, .slice X1 (List.length x.2) Xb] := (hk _ b_22).trans hRb
 have hNc : Blk wc (w4.heap.size) 29 #[.slice N0 (List.length n) Na] := (hk _ b_22).trans hNb
 have hKc : Blk wc (w4.heap.size + 1) 29 #[.slice K0 (List.length k) Ka] := (hk _ b_22).trans hKb
 have qxc := qxb.keep hs (fun x h1 h2 => hk x b_22)
 have qnc := qnb.keep hs (fun x h1 h2 => hk x b_22)
 have qkc := qkb.keep hs (fun x h1 h2 => hk x b_22)
 (try simp only [World.size_drew] at hs)
 have zc := hs
 clear hw hk hs F zp p0 g0 Db hOb hPb hQb hRb hNb hKb qxb qnb qkb
 refine hK.out _ _ (⟨hRc.cell 0, hRc.cell 1, hNc.cell 0, hKc.cell 0⟩) (fun hHeld => ?_)
 clear hK K
 try simp only [layz]
 refine wpAnyH_done b_20 ?_ _
 refine NoPanic.normal ?_
 go_wp2
 obtain ⟨o0, o1, -⟩ := blk2r hOc
 have p0 := hPc.cell 0
 have p1 := hQc.cell 0
 refine bodyPost_ret (v := .tuple #[.agg #[.slice X0 (List.length x.1) Xa, .slice X1 (List.length x.2) Xb], .agg #[.slice N0 (List.length n) Na], .agg #[.slice K0 (List.length k) Ka]]) (by simp [results, Tryz.results5, go_sem, o0, o1, p0, p1]) rfl ?_
 exact ⟨⟨_, x, _, n, _, _, k, _, rfl, qxc.rd, hokx, qnc.rd, hokn, qkc.rd, hokk⟩, Dr.below Dc b_22 (Nat.le_refl _)⟩
set_option maxRecDepth 100000 in
set_option maxHeartbeats 4000000 in
theorem C_spec_l10Pair (w : World) (v : Value) (b : List UInt8) (h : (Ty.sl .byte).rd w [v] b) :
  Calls Tryz.prog 29 #[v] w (fun e w' => (∃ L0 l La N0 n Na K0 k Ka, e = .returned (.tuple #[.slice L0 (List.length l) La, .agg #[.slice N0 (List.length n) Na], .agg #[.slice K0 (List.length k) Ka]]) ∧ RdI (.sl tRule) w.heap.size w'.heap.size w' [.slice L0 (List.length l) La] l ∧ okRules l ∧ RdI (.sl .str) w.heap.size w'.heap.size w' [.slice N0 (List.length n) Na] n ∧ okAny n ∧ RdI (.sl .str) w.heap.size w'.heap.size w' [.slice K0 (List.length k) Ka] k ∧ okAny k) ∧ Below w.heap.size w w') := by
 obtain ⟨Ac, cc, rfl, _, _, _⟩ := Ty.rd_sl h
 go_enter Tryz.func29, Tryz.ntmps29
 go_wp2_with fail
 refine Calls.mono (C_spec_l1New _ _ b (Ty.rd_below b_2 h)) ?_
 rintro e w1 ⟨rfl, hb1, hc1⟩
 (try simp only [World.size_alloc] at hc1 ⊢)
 have z1 := hc1.lt
 have hP1 : Blk w1 (w.heap.size) 29 #[.slice none 0 0] := by
  have := Blk.new w 29 #[.slice none 0 0]
  (try simp only [World.size_alloc] at this)
  exact Blk.below (Blk.alloc this _) hb1 b_11
 have hQ1 : Blk w1 (w.heap.size + 1) 29 #[.slice none 0 0] := by
  have := Blk.new (w.alloc (.cells #[.slice none 0 0] 29)) 29 #[.slice none 0 0]
  (try simp only [World.size_alloc] at this)
  exact Blk.below this hb1 b_11
 have D1 : Dr (w.heap.size + 1 + 1) w w1 := Dr.of (bel_trans b_2 hb1) _
 clear hb1
 go_wp2_with fail
 refine Calls.mono (C_spec_l10Any _ (w.heap.size + 1 + 1) b_4) ?_
 rintro e w2 ⟨hd2, hc2, L0, l, La, rfl, ql2, hokl⟩
 have E2 : Dr (w.heap.size + 1 + 1) w1 w2 := b_1
 have z2 := E2.size
 (try simp only [World.size_alloc, World.size_drew, size_drewN] at ql2)
 have hP2 := Dr.blk E2 hP1 b_22
 have hQ2 := Dr.blk E2 hQ1 b_22
 clear hP1 hQ1
 have D2 := D1.trans E2
 clear hd2 E2 D1 hc1
 go_wp2_with fail
 refine Calls.mono (C_spec_l10Names _ (w.heap.size + 1 + 1) b_4) ?_
 rintro e w3 ⟨hd3, hc3, N0, n, Na, K0, k, Ka, rfl, qn3, hokn, qk3, hokk⟩
 have E3 : Dr (w.heap.size + 1 + 1) w2 w3 := b_1
 have z3 := E3.size
 (try simp only [World.size_alloc, World.size_drew, size_drewN] at qn3)
 (try simp only [World.size_alloc, World.size_drew, size_drewN] at qk3)
 have hP3 := Dr.blk E3 hP2 b_22
 have hQ3 := Dr.blk E3 hQ2 b_22
 have ql3 := ql2.dr E3 b_22
 clear hP2 hQ2 ql2
 have D3 := D2.trans E3
 clear hd3 E3 D2 hc2
 obtain ⟨w4, hw4⟩ : ∃ V, V = ((w3.alloc (.cells #[.slice N0 (List.length n) Na] 29)).alloc (.cells #[.slice K0 (List.length k) Ka] 29)) := ⟨_, rfl⟩
 have E4 : Dr (w.heap.size + 1 + 1) w3 w4 := by rw [hw4]; exact (new_dr _ w3 _).alloc _
 have hc4 : CurT w4 (w.heap.size + 1 + 1) := by rw [hw4]; exact (hc3.alloc _).alloc _
 have hP4 := Dr.blk E4 hP3 b_22
 have hQ4 := Dr.blk E4 hQ3 b_22
 have ql4 := ql3.dr E4 b_22
 have qn4 := qn3.dr E4 b_22
 have qk4 := qk3.dr E4 b_22
 clear hP3 hQ3 ql3 qn3 qk3
 have hN4 : Blk w4 (w3.heap.size) 29 #[.slice N0 (List.length n) Na] := by rw [hw4]; have := Blk.new w3 29 #[.slice N0 (List.length n) Na]; (try simp only [World.size_alloc] at this); exact (Blk.alloc this _)
 have hK4 : Blk w4 (w3.heap.size + 1) 29 #[.slice K0 (List.length k) Ka] := by rw [hw4]; have := Blk.new (w3.alloc (.cells #[.slice N0 (List.length n) Na] 29)) 29 #[.slice K0 (List.length k) Ka]; (try simp only [World.size_alloc] at this); exact this
 have z4 := hK4.lt
 have D4 := D3.trans E4
 clear E4 D3 hc3
 go_wp2_with fail
 rw [← hw4]
 (try rw [show w3.heap.size + 1 + 1 = w4.heap.size from by rw [hw4]; simp only [World.size_alloc]])
 clear hw4
 refine wp_region_noPanic ?_
 refine wp_region_held_drew (S := (fun V => V.cell? ⟨w3.heap.size, 0, none⟩ = some (.slice N0 (List.length n) Na) ∧ V.cell? ⟨w3.heap.size + 1, 0, none⟩ = some (.slice K0 (List.length k) Ka))) b_20 ?_ (fun hHeld => ?_)
 ·exact ⟨hN4.cell 0, hK4.cell 0⟩
 refine tkz4 0 1 2 3 ?_
 try simp only [layz]
 refine rz1 4 (fun K hK => ?_)
 obtain ⟨p0, g0⟩ := blk1 hP4
 have zp := hP4.lt
 go_simp
 refine abs_world (fun wb hw => ?_)
 obtain ⟨hPb, hk, hs, -, F⟩ := stored1d (v0 := .slice N0 (List.length n) Na) hP4 b_13
 have Db := F (w.heap.size + 1 + 1) w b_22 D4
 have hQb : Blk wb (w.heap.size + 1) 29 #[.slice none 0 0] := (hk _ b_22).trans hQ4
 have hNb : Blk wb (w3.heap.size) 29 #[.slice N0 (List.length n) Na] := (hk _ b_22).trans hN4
 have hKb : Blk wb (w3.heap.size + 1) 29 #[.slice K0 (List.length k) Ka] := (hk _ b_22).trans hK4
 have qlb := ql4.keep hs (fun x h1 h2 => hk x b_22)
 have qnb := qn4.keep hs (fun x h1 h2 => hk x b_22)
 have qkb := qk4.keep hs (fun x h1 h2 => hk x b_22)
 (try simp only [World.size_drew] at hs)
 have zb := hs
 clear hw hk hs F zp p0 g0 D4 hP4 hQ4 hN4 hK4 ql4 qn4 qk4
 refine hK.out _ _ (⟨hNb.cell 0, hKb.cell 0⟩) (fun hHeld => ?_)
 clear hK K
 try simp only [layz]
 refine rz1 5 (fun K hK => ?_)
 obtain ⟨p0, g0⟩ := blk1 hQb
 have zp := hQb.lt
 go_simp
 refine abs_world (fun wc hw => ?_)
 obtain ⟨hQc, hk, hs, -, F⟩ := stored1d (v0 := .slice K0 (List.length k) Ka) hQb b_13
 have Dc := F (w.heap.size + 1 + 1) w b_22 Db
 have hPc : Blk wc (w.heap.size) 29 #[.slice N0 (List.length n) Na] := (hk _ b_22).trans hPb
 have hNc : Blk wc (w3.heap.size) 29 #[.slice N0 (List.length n) Na] := (hk _ b_22).trans hNb
 have hKc : Blk wc (w3.heap.size + 1) 29 #[.slice K0 (List.length k) Ka] := (hk _ b_22).trans hKb
 have qlc := qlb.keep hs (fun x h1 h2 => hk x b_22)
 have qnc := qnb.keep hs (fun x h1 h2 => hk x b_22)
 have qkc := qkb.keep hs (fun x h1 h2 => hk x b_22)
 (try simp only [World.size_drew] at hs)
 have zc := hs
 clear hw hk hs F zp p0 g0 Db hPb hQb hNb hKb qlb qnb qkb
 refine hK.out _ _ (⟨hNc.cell 0, hKc.cell 0⟩) (fun hHeld => ?_)
 clear hK K
 try simp only [layz]
 refine wpAnyH_done b_20 ?_ _
 refine NoPanic.normal ?_
 go_wp2
 have p0 := hPc.cell 0
 have p1 := hQc.cell 0
 refine bodyPost_ret (v := .tuple #[.slice L0 (List.length l) La, .agg #[.slice N0 (List.length n) Na], .agg #[.slice K0 (List.length k) Ka]]) (by simp [results, Tryz.results29, go_sem, p0, p1]) rfl ?_
 exact ⟨⟨_, l, _, _, n, _, _, k, _, rfl, qlc.mono b_22 qlc.1 (Nat.le_refl _), hokl, qnc.mono b_22 qnc.1 (Nat.le_refl _), hokn, qkc.mono b_22 qkc.1 (Nat.le_refl _), hokk⟩, Dr.below Dc b_22 (Nat.le_refl _)⟩
set_option maxRecDepth 100000 in
set_option maxHeartbeats 4000000 in
theorem C_spec_DrawAllowed (w : World) (v : Value) (b : List UInt8) (h : (Ty.sl .byte).rd w [v] b) :
  Calls Tryz.prog 6 #[v] w (fun e w' => (∃ L0 l La N0 n Na K0 k Ka, e = .returned (.tuple #[.slice L0 (List.length l) La, .agg #[.slice N0 (List.length n) Na], .agg #[.slice K0 (List.length k) Ka]]) ∧ (Ty.sl tRule).rd w' [.slice L0 (List.length l) La] l ∧ okRules l ∧ (Ty.sl .str).rd w' [.slice N0 (List.length n) Na] n ∧ okAny n ∧ (Ty.sl .str).rd w' [.slice K0 (List.length k) Ka] k ∧ okAny k) ∧ Below w.heap.size w w') := by
 obtain ⟨Ac, cc, rfl, _, _, _⟩ := Ty.rd_sl h
 go_enter Tryz.func6, Tryz.ntmps6
 go_wp2_with fail
 refine Calls.mono (C_spec_l10Pair _ _ b (Ty.rd_below b_2 h)) ?_
 rintro e w1 ⟨⟨L0, l, La, N0, n, Na, K0, k, Ka, rfl, ql, hokl, qn, hokn, qk, hokk⟩, hb1⟩
 (try simp only [World.size_alloc] at hb1 ql qn qk)
 have z1 := hb1.size
 (try simp only [World.size_alloc] at z1)
 have hP1 : Blk w1 w.heap.size 29 #[.slice none 0 0] := Blk.below ((Blk.new w _ _).alloc _) hb1 b_11
 have hQ1 : Blk w1 (w.heap.size + 1) 29 #[.slice none 0 0] := (by have := Blk.new (w.alloc (.cells #[.slice none 0 0] 29)) 29 #[.slice none 0 0]; rw [World.size_alloc] at this; exact this.below hb1 b_11)
 have hB1 : Below w.heap.size w w1 := bel_trans b_2 (hb1.mono b_11)
 clear hb1
 obtain ⟨p0, g0⟩ := blk1 hP1
 obtain ⟨p1, g1⟩ := blk1 hQ1
 have zp := hP1.lt
 have zq := hQ1.lt
 go_wp2_with fail
 obtain ⟨wz, hwz⟩ : ∃ V, V = ((w1.setCell ⟨w.heap.size, 0, none⟩ (.slice N0 (List.length n) Na)).setCell ⟨w.heap.size + 1, 0, none⟩ (.slice K0 (List.length k) Ka)) := ⟨_, rfl⟩
 have hPz : Blk wz w.heap.size 29 #[.slice N0 (List.length n) Na] := by rw [hwz]; exact (hP1.set_ 0 _).far (p := ⟨w.heap.size + 1, 0, none⟩) b_18 _
 have hQz : Blk wz (w.heap.size + 1) 29 #[.slice K0 (List.length k) Ka] := by rw [hwz]; exact (hQ1.far (p := ⟨w.heap.size, 0, none⟩) b_18 _).set_ 0 _
 have hBz : Below w.heap.size w wz := by rw [hwz]; exact b_2
 have qlz := by have := (ql.set (p := ⟨w.heap.size, 0, none⟩) (.inl b_18) (.slice N0 (List.length n) Na)).set (p := ⟨w.heap.size + 1, 0, none⟩) (.inl b_18) (.slice K0 (List.length k) Ka); rw [← hwz] at this; exact this.rd
 have qnz := by have := (qn.set (p := ⟨w.heap.size, 0, none⟩) (.inl b_18) (.slice N0 (List.length n) Na)).set (p := ⟨w.heap.size + 1, 0, none⟩) (.inl b_18) (.slice K0 (List.length k) Ka); rw [← hwz] at this; exact this.rd
 have qkz := by have := (qk.set (p := ⟨w.heap.size, 0, none⟩) (.inl b_18) (.slice N0 (List.length n) Na)).set (p := ⟨w.heap.size + 1, 0, none⟩) (.inl b_18) (.slice K0 (List.length k) Ka); rw [← hwz] at this; exact this.rd
 (try rw [← hwz])
 have p0 := hPz.cell 0
 have p1 := hQz.cell 0
 refine bodyPost_ret (v := .tuple #[.slice L0 (List.length l) La, .agg #[.slice N0 (List.length n) Na], .agg #[.slice K0 (List.length k) Ka]]) (by simp [results, Tryz.results6, go_sem, p0, p1]) rfl ?_
 exact ⟨⟨_, l, _, _, n, _, _, k, _, rfl, qlz, hokl, qnz, hokn, qkz, hokk⟩, hBz⟩
set_option maxRecDepth 100000 in
set_option maxHeartbeats 4000000 in
theorem C_spec_DrawEqualRules (w : World) (v : Value) (b : List UInt8) (h : (Ty.sl .byte).rd w [v] b) :
  Calls Tryz.prog 11 #[v] w (fun e w' => (∃ cs x cs' y, e = .returned (.tuple #[.agg cs.toArray, .agg cs'.toArray]) ∧ tRule.rd w' cs x ∧ okRule x ∧ tRule.rd w' cs' y ∧ okRule y) ∧ Below w.heap.size w w') := by
 obtain ⟨Ac, cc, rfl, _, _, _⟩ := Ty.rd_sl h
 go_enter Tryz.func11, Tryz.ntmps11
 go_wp2_with fail
 refine Calls.mono (C_spec_l1New _ _ b (Ty.rd_below b_2 h)) ?_
 rintro e w1 ⟨rfl, hb1, hc1⟩
 (try simp only [World.size_alloc] at hc1 ⊢)
 have z1 := hc1.lt
 have hO1 : Blk w1 (w.heap.size) 28 #[.slice none 0 0, .slice none 0 0] := by
  have := Blk.new w 28 #[.slice none 0 0, .slice none 0 0]
  (try simp only [World.size_alloc] at this)
  exact Blk.below (Blk.alloc this _) hb1 b_11
 have hP1 : Blk w1 (w.heap.size + 1) 28 #[.slice none 0 0, .slice none 0 0] := by
  have := Blk.new (w.alloc (.cells #[.slice none 0 0, .slice none 0 0] 28)) 28 #[.slice none 0 0, .slice none 0 0]
  (try simp only [World.size_alloc] at this)
  exact Blk.below this hb1 b_11
 have D1 : Dr (w.heap.size + 1 + 1) w w1 := Dr.of (bel_trans b_2 hb1) _
 clear hb1
 go_wp2_with fail
 refine Calls.mono (C_spec_l10One _ (w.heap.size + 1 + 1) b_4) ?_
 rintro e w2 ⟨hd2, hc2, cs2, x, rfl, qx2, hok⟩
 have E2 : Dr (w.heap.size + 1 + 1) w1 w2 := b_1
 have z2 := E2.size
 obtain ⟨X0, Xa, X1, Xb, rfl, -, -⟩ := rd_Rule qx2.rd
 (try simp only [World.size_alloc, World.size_drew, size_drewN] at qx2)
 have hO2 := Dr.blk E2 hO1 b_22
 have hP2 := Dr.blk E2 hP1 b_22
 clear hO1 hP1
 have D2 := D1.trans E2
 clear hd2 E2 D1 hc1
 obtain ⟨w3, hw3⟩ : ∃ V, V = (w2.alloc (.cells #[.slice X0 (List.length x.1) Xa, .slice X1 (List.length x.2) Xb] 28)) := ⟨_, rfl⟩
 have E3 : Dr (w.heap.size + 1 + 1) w2 w3 := by rw [hw3]; exact new_dr _ w2 _
 have hc3 : CurT w3 (w.heap.size + 1 + 1) := by rw [hw3]; exact hc2.alloc _
 have hO3 := Dr.blk E3 hO2 b_22
 have hP3 := Dr.blk E3 hP2 b_22
 have qx3 := qx2.dr E3 b_22
 clear hO2 hP2 qx2
 have hR3 : Blk w3 (w2.heap.size) 28 #[.slice X0 (List.length x.1) Xa, .slice X1 (List.length x.2) Xb] := by rw [hw3]; have := Blk.new w2 28 #[.slice X0 (List.length x.1) Xa, .slice X1 (List.length x.2) Xb]; (try simp only [World.size_alloc] at this); exact this
 have z3 := hR3.lt
 have D3 := D2.trans E3
 clear E3 D2 hc2
 go_wp2_with fail
 rw [← hw3]
 (try rw [show w2.heap.size + 1 = w3.heap.size from by rw [hw3]; simp only [World.size_alloc]])
 clear hw3
 refine Calls.mono (C_spec_l1Once _ (w.heap.size + 1 + 1) 2 b_4 b_21 b_21) ?_
 rintro e w4 ⟨hd4, hc4, bo, rfl⟩
 have E4 : Dr (w.heap.size + 1 + 1) w3 w4 := b_1
 have z4 := E4.size
 have hO4 := Dr.blk E4 hO3 b_22
 have hP4 := Dr.blk E4 hP3 b_22
 have hR4 := Dr.blk E4 hR3 b_22
 have qx4 := qx3.dr E4 b_22
 clear hO3 hP3 hR3 qx3
 have D4 := D3.trans E4
 clear hd4 E4 D3 hc3
 have HC : Hid (∀ V, Dr (w.heap.size + 1 + 1) w4 V → V.cell? ⟨w2.heap.size, 0, none⟩ = some (.slice X0 (List.length x.1) Xa) ∧ V.cell? ⟨w2.heap.size, 1, none⟩ = some (.slice X1 (List.length x.2) Xb)) := fun V hV => by
  obtain ⟨a0, a1, -⟩ := blk2r (Dr.blk hV hR4 b_22)
  exact ⟨a0, a1⟩
 have hQ4 := Lib.hid qx4
 have hD4 := Lib.hid D4
 clear qx4 D4
 cases bo with
 | true =>
  go_wp2_with fail
  refine wp_region_noPanic ?_
  refine wp_region_held_drew (S := (fun V => V.cell? ⟨w2.heap.size, 0, none⟩ = some (.slice X0 (List.length x.1) Xa) ∧ V.cell? ⟨w2.heap.size, 1, none⟩ = some (.slice X1 (List.length x.2) Xb))) b_20 ?_ (fun hHeld => ?_)
  ·exact HC.out _ (Dr.drew (Dr.refl _ _))
  refine tkz2 0 1 ?_
  try simp only [layz]
  refine rz1 2 (fun K hK => ?_)
  go_simp
  go_at_call 36
  refine Calls.mono (C_spec_l10Copy _ _ x (by first | exact hQ4.out.rd | exact hQ4.out.drew.rd) hok.1.len hok.2.len) ?_
  rintro e w5 ⟨csy, rfl, qy5, hb5⟩
  obtain ⟨E5, z5⟩ := ez w4 (Dr.of hb5 (w.heap.size + 1 + 1))
  have hc5 : CurT w5 (w.heap.size + 1 + 1) := Cur.below (cuz hc4) hb5
  (try simp only [szz] at qy5)
  obtain ⟨Y0, Ya, Y1, Yb, rfl, -, -⟩ := rd_Rule qy5.rd
  clear hb5
  refine hK.out _ _ (HC.out _ (drz E5)) (fun hHeld => ?_)
  clear hK K
  try simp only [layz]
  refine rz1 3 (fun K hK => ?_)
  have F5 : Dr (w.heap.size + 1 + 1) w4 w5 := (drz E5)
  have hO5 := Dr.blk F5 hO4 b_22
  have hP5 := Dr.blk F5 hP4 b_22
  have hR5 := Dr.blk F5 hR4 b_22
  have qx5 := hQ4.out.dr F5 b_22
  have D5 := hD4.out.trans F5
  obtain ⟨p0, p1, g0, g1⟩ := blk2r hO5
  have zp := hO5.lt
  go_simp
  refine abs_world (fun wa hw => ?_)
  obtain ⟨hOa, hk, hs, F⟩ := stored2rd (v0 := .slice X0 (List.length x.1) Xa) (v1 := .slice X1 (List.length x.2) Xb) hO5 b_13
  have Da := F (w.heap.size + 1 + 1) w b_22 D5
  have hPa : Blk wa (w.heap.size + 1) 28 #[.slice none 0 0, .slice none 0 0] := (hk _ b_22).trans hP5
  have hRa : Blk wa (w2.heap.size) 28 #[.slice X0 (List.length x.1) Xa, .slice X1 (List.length x.2) Xb] := (hk _ b_22).trans hR5
  have qxa := qx5.keep hs (fun x h1 h2 => hk x b_22)
  have qya := qy5.keep hs (fun x h1 h2 => hk x b_22)
  (try simp only [World.size_drew] at hs)
  have za := hs
  clear hw hk hs F zp p0 g0 p1 g1 D5 hO5 hP5 hR5 qx5 qy5
  refine hK.out _ _ (⟨hRa.cell 0, hRa.cell 1⟩) (fun hHeld => ?_)
  clear hK K
  try simp only [layz]
  refine rz1 4 (fun K hK => ?_)
  obtain ⟨p0, p1, g0, g1⟩ := blk2r hPa
  have zp := hPa.lt
  go_simp
  refine abs_world (fun wb hw => ?_)
  obtain ⟨hPb, hk, hs, F⟩ := stored2rd (v0 := .slice Y0 (List.length x.1) Ya) (v1 := .slice Y1 (List.length x.2) Yb) hPa b_13
  have Db := F (w.heap.size + 1 + 1) w b_22 Da
  have hOb : Blk wb (w.heap.size) 28 #[.slice X0 (List.length x.1) Xa, .slice X1 (List.length x.2) Xb] := (hk _ b_22).trans hOa
  have hRb : Blk wb (w2.heap.size) 28 #[.slice X0 (List.length x.1) Xa, .slice X1 (List.length x.2) Xb] := (hk _ b_22).trans hRa
  have qxb := qxa.keep hs (fun x h1 h2 => hk x b_22)
  have qyb := qya.keep hs (fun x h1 h2 => hk x b_22)
  (try simp only [World.size_drew] at hs)
  have zb := hs
  clear hw hk hs F zp p0 g0 p1 g1 Da hOa hPa hRa qxa qya
  refine hK.out _ _ (⟨hRb.cell 0, hRb.cell 1⟩) (fun hHeld => ?_)
  clear hK K
  try simp only [layz]
  refine wpAnyH_done b_20 ?_ _
  refine NoPanic.normal ?_
  go_wp2
  obtain ⟨o0, o1, -⟩ := blk2r hOb
  obtain ⟨p0, p1, -⟩ := blk2r hPb
  refine bodyPost_ret (v := .tuple #[.agg #[.slice X0 (List.length x.1) Xa, .slice X1 (List.length x.2) Xb], .agg #[.slice Y0 (List.length x.1) Ya, .slice Y1 (List.length x.2) Yb]]) (by simp [results, Tryz.results11, go_sem, o0, o1, p0, p1]) rfl ?_
  exact ⟨⟨_, x, _, x, rfl, qxb.rd, hok, qyb.rd, hok⟩, Dr.below Db b_22 (Nat.le_refl _)⟩
 | false =>
  go_wp2_with fail
  refine wp_region_noPanic ?_
  refine wp_region_held_drew (S := (fun V => V.cell? ⟨w2.heap.size, 0, none⟩ = some (.slice X0 (List.length x.1) Xa) ∧ V.cell? ⟨w2.heap.size, 1, none⟩ = some (.slice X1 (List.length x.2) Xb))) b_20 ?_ (fun hHeld => ?_)
  ·exact HC.out _ (Dr.drew (Dr.refl _ _))
  refine tkz2 0 1 ?_
  try simp only [layz]
  refine rz1 2 (fun K hK => ?_)
  go_simp
  go_at_call 27
  refine Calls.mono (C_spec_l10One _ (w.heap.size + 1 + 1) (cuz hc4)) ?_
  rintro e w5 ⟨hd5, hc5, csy, y, rfl, qy5, hoky⟩
  obtain ⟨E5, z5⟩ := ez w4 hd5
  (try simp only [szz] at qy5)
  obtain ⟨Y0, Ya, Y1, Yb, rfl, -, -⟩ := rd_Rule qy5.rd
  clear hd5
  refine hK.out _ _ (HC.out _ (drz E5)) (fun hHeld => ?_)
  clear hK K
  try simp only [layz]
  refine rz1 3 (fun K hK => ?_)
  have F5 : Dr (w.heap.size + 1 + 1) w4 w5 := (drz E5)
  have hO5 := Dr.blk F5 hO4 b_22
  have hP5 := Dr.blk F5 hP4 b_22
  have hR5 := Dr.blk F5 hR4 b_22
  have qx5 := hQ4.out.dr F5 b_22
  have D5 := hD4.out.trans F5
  obtain ⟨p0, p1, g0, g1⟩ := blk2r hO5
  have zp := hO5.lt
  go_simp
  refine abs_world (fun wa hw => ?_)
  obtain ⟨hOa, hk, hs, F⟩ := stored2rd (v0 := .slice X0 (List.length x.1) Xa) (v1 := .slice X1 (List.length x.2) Xb) hO5 b_13
  have Da := F (w.heap.size + 1 + 1) w b_22 D5
  have hPa : Blk wa (w.heap.size + 1) 28 #[.slice none 0 0, .slice none 0 0] := (hk _ b_22).trans hP5
  have hRa : Blk wa (w2.heap.size) 28 #[.slice X0 (List.length x.1) Xa, .slice X1 (List.length x.2) Xb] := (hk _ b_22).trans hR5
  have qxa := qx5.keep hs (fun x h1 h2 => hk x b_22)
  have qya := qy5.keep hs (fun x h1 h2 => hk x b_22)
  (try simp only [World.size_drew] at hs)
  have za := hs
  clear hw hk hs F zp p0 g0 p1 g1 D5 hO5 hP5 hR5 qx5 qy5
  refine hK.out _ _ (⟨hRa.cell 0, hRa.cell 1⟩) (fun hHeld => ?_)
  clear hK K
  try simp only [layz]
  refine rz1 4 (fun K hK => ?_)
  obtain ⟨p0, p1, g0, g1⟩ := blk2r hPa
  have zp := hPa.lt
  go_simp
  refine abs_world (fun wb hw => ?_)
  obtain ⟨hPb, hk, hs, F⟩ := stored2rd (v0 := .slice Y0 (List.length y.1) Ya) (v1 := .slice Y1 (List.length y.2) Yb) hPa b_13
  have Db := F (w.heap.size + 1 + 1) w b_22 Da
  have hOb : Blk wb (w.heap.size) 28 #[.slice X0 (List.length x.1) Xa, .slice X1 (List.length x.2) Xb] := (hk _ b_22).trans hOa
  have hRb : Blk wb (w2.heap.size) 28 #[.slice X0 (List.length x.1) Xa, .slice X1 (List.length x.2) Xb] := (hk _ b_22).trans hRa
  have qxb := qxa.keep hs (fun x h1 h2 => hk x b_22)
  have qyb := qya.keep hs (fun x h1 h2 => hk x b_22)
  (try simp only [World.size_drew] at hs)
  have zb := hs
  clear hw hk hs F zp p0 g0 p1 g1 Da hOa hPa hRa qxa qya
  refine hK.out _ _ (⟨hRb.cell 0, hRb.cell 1⟩) (fun hHeld => ?_)
  clear hK K
  try simp only [layz]
  refine wpAnyH_done b_20 ?_ _
  refine NoPanic.normal ?_
  go_wp2
  obtain ⟨o0, o1, -⟩ := blk2r hOb
  obtain ⟨p0, p1, -⟩ := blk2r hPb
  refine bodyPost_ret (v := .tuple #[.agg #[.slice X0 (List.length x.1) Xa, .slice X1 (List.length x.2) Xb], .agg #[.slice Y0 (List.length y.1) Ya, .slice Y1 (List.length y.2) Yb]]) (by simp [results, Tryz.results11, go_sem, o0, o1, p0, p1]) rfl ?_
  exact ⟨⟨_, x, _, y, rfl, qxb.rd, hok, qyb.rd, hoky⟩, Dr.below Db b_22 (Nat.le_refl _)⟩
end Go.Proofs.YtidnahocnhcoiaaGreatDoor
