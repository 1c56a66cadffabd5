/- Texts of this claim, merged by a program: Thd. -/
import Derived.Test.YtldgbnlcnlfmeaaQcP
import Derived.Test.YtldgbnlcnlfmeaaQc10
import Derived.Test.YtldgbnlcnlfmeaaQc11
import Derived.Test.YtldgbnlcnlfmeaaQc12
import Derived.Deep.RegionHeld3
import Derived.Deep.DeepCutAuto
namespace Go.Proofs.Ytldgbnlcnlfmeaa
open Go.RowKit
set_option linter.unusedVariables false
set_option linter.unusedSimpArgs false
def okThing (x : Ty.D tData) : Prop := okAny x.1 ∧ List.length x.2.1 ≤ 61 ∧ okAny x.2.2.1
theorem thing_bulk {x : Ty.D tData} (h : okThing x) : Ty.bulk tData x ≤ 201 := bulk_thing (any_bulk h.1) h.2.1 (any_bulk h.2.2)
theorem key3 {s : List UInt8} (h : s ∈ [[47, 107, 101, 121, 47, 97], [47, 107, 101, 121, 47, 98], [47, 97, 47, 107, 101, 121]]) : okAny (pnS s).1 ∧ s.length ≤ 1000000 := by
 simp at h; rcases h with rfl | rfl | rfl <;> exact ⟨okAny.of _ b_33, by decide⟩
theorem keep5 (W : World) (g : Nat) (v0 v1 v2 v3 v4 : Value) {q : Nat} (h : q ≠ g) : (((((W.setCell ⟨g, 0, none⟩ v0).setCell ⟨g, 1, none⟩ v1).setCell ⟨g, 2, none⟩ v2).setCell ⟨g, 3, none⟩ v3).setCell ⟨g, 4, none⟩ v4).heap[q]? = W.heap[q]? := by
 rw [Below.heap_setCell _ _ _ _ h, Below.heap_setCell _ _ _ _ h, Below.heap_setCell _ _ _ _ h, Below.heap_setCell _ _ _ _ h, Below.heap_setCell _ _ _ _ h]
theorem keep5d (W : World) (g : Nat) (v0 v1 v2 v3 v4 : Value) {q : Nat} (h : q ≠ g) : (((((W.setCell ⟨g, 0, none⟩ v0).setCell ⟨g, 1, none⟩ v1).setCell ⟨g, 2, none⟩ v2).setCell ⟨g, 3, none⟩ v3).setCell ⟨g, 4, none⟩ v4).drew.heap[q]? = W.heap[q]? := by
 rw [show ∀ V : World, V.drew.heap = V.heap from fun _ => rfl]; exact keep5 W g v0 v1 v2 v3 v4 h
theorem blk5 {w : World} {g : Nat} {t : TypeId} {a b c d e : Value} (h : Blk w g t #[a, b, c, d, e]) : w.cell? ⟨g, 0, none⟩ = some a ∧ w.cell? ⟨g, 1, none⟩ = some b ∧ w.cell? ⟨g, 2, none⟩ = some c ∧ w.cell? ⟨g, 3, none⟩ = some d ∧ w.cell? ⟨g, 4, none⟩ = some e ∧
  w.frozen? ⟨g, 0, none⟩ = false ∧ w.frozen? ⟨g, 1, none⟩ = false ∧ w.frozen? ⟨g, 2, none⟩ = false ∧ w.frozen? ⟨g, 3, none⟩ = false ∧ w.frozen? ⟨g, 4, none⟩ = false := ⟨h.cell 0, h.cell 1, h.cell 2, h.cell 3, h.cell 4, h.f1, h.f1, h.f1, h.f1, h.f1⟩
theorem stored5 {P W : World} {g : Nat} {t : TypeId} {a b c d e v0 v1 v2 v3 v4 : Value} (h : Blk P g t #[a, b, c, d, e]) (hw : W = (((((P.setCell ⟨g, 0, none⟩ v0).setCell ⟨g, 1, none⟩ v1).setCell ⟨g, 2, none⟩ v2).setCell ⟨g, 3, none⟩ v3).setCell ⟨g, 4, none⟩ v4) ∨ W = (((((P.setCell ⟨g, 0, none⟩ v0).setCell ⟨g, 1, none⟩ v1).setCell ⟨g, 2, none⟩ v2).setCell ⟨g, 3, none⟩ v3).setCell ⟨g, 4, none⟩ v4).drew)
  {B : Nat} (hB : B < g) (hc : CurT P B) : Blk W g t #[v0, v1, v2, v3, v4] ∧ (∀ q, q ≠ g → W.heap[q]? = P.heap[q]?) ∧ P.heap.size ≤ W.heap.size ∧ CurT W B ∧ ∀ w0 : World, w0.heap.size ≤ g → Dr B w0 P → Dr B w0 W := by
 have hb : Blk (((((P.setCell ⟨g, 0, none⟩ v0).setCell ⟨g, 1, none⟩ v1).setCell ⟨g, 2, none⟩ v2).setCell ⟨g, 3, none⟩ v3).setCell ⟨g, 4, none⟩ v4) g t #[v0, v1, v2, v3, v4] := (Blk.set_ (Blk.set_ (Blk.set_ (Blk.set_ (Blk.set_ h 0 v0) 1 v1) 2 v2) 3 v3) 4 v4)
 have hC : CurT (((((P.setCell ⟨g, 0, none⟩ v0).setCell ⟨g, 1, none⟩ v1).setCell ⟨g, 2, none⟩ v2).setCell ⟨g, 3, none⟩ v3).setCell ⟨g, 4, none⟩ v4) B := Cur.far (Cur.far (Cur.far (Cur.far (Cur.far hc hB v0) hB v1) hB v2) hB v3) hB v4
 have hD : ∀ w0 : World, w0.heap.size ≤ g → Dr B w0 P → Dr B w0 (((((P.setCell ⟨g, 0, none⟩ v0).setCell ⟨g, 1, none⟩ v1).setCell ⟨g, 2, none⟩ v2).setCell ⟨g, 3, none⟩ v3).setCell ⟨g, 4, none⟩ v4) := fun w0 h0 hd => Dr.set (Dr.set (Dr.set (Dr.set (Dr.set hd (.inr h0) v0) (.inr h0) v1) (.inr h0) v2) (.inr h0) v3) (.inr h0) v4
 rcases hw with rfl | rfl
 ·exact ⟨hb, fun q hq => keep5 _ _ _ _ _ _ _ hq, by simp only [World.size_setCell]; exact Nat.le_refl _, hC, hD⟩
 ·exact ⟨hb.drew, fun q hq => keep5d _ _ _ _ _ _ _ hq, by simp only [World.size_setCell, World.size_drew]; exact Nat.le_refl _, hC.drew, fun w0 h0 hd => (hD w0 h0 hd).drew⟩
set_option maxHeartbeats 1000000 in
theorem C_spec_l8Secret (w : World) (B : Nat) (hc : CurT w B) : Calls Try.prog 126 #[pB B] w (RetDT B w (DrI 100 104)) := by
 have hB := hc.lt
 go_enter Try.func126, Try.ntmps126
 go_wp2_with fail
 refine (C_spec_l1Below _ B 5 b_9 b_33 b_33).mono ?_
 rintro e w1 ⟨hd1, hc1, x, rfl, hx0, hx1⟩
 have D1 : Dr B w w1 := b_3
 have hv : IntKind.i64.wrap (100 + x) = 100 + x := IntWalk.i64_in _ b_34
 go_wp2
 go_ret
 exact ⟨D1, hc1, _, rfl, by omega, by omega⟩
set_option maxRecDepth 100000 in
set_option maxHeartbeats 4000000 in
theorem C_spec_l8Draw (w : World) (B : Nat) (hc : CurT w B) :
  Calls Try.prog 118 #[pB B] w (RetDT B w (DrR tData w okThing)) := by
 have hB := hc.lt
 go_enter Try.func118, Try.ntmps118
 go_wp2_with fail
 refine (C_spec_l4Name _ B b_9).mono ?_
 rintro e w1 ⟨hd1, hc1, v, n, rfl, hR, hV⟩
 have z1 := hd1.size
 simp only [World.size_alloc] at z1
 have hO1 : Blk w1 w.heap.size 46 #[.slice none 0 0, .slice none 0 0, .slice none 0 0, .int .i64 0, .int .i64 0] := Dr.blk hd1 (Blk.new w _ _) b_34
 have hD1 : Dr B w w1 := b_3
 obtain ⟨A, c, rfl⟩ := hR.form
 have HR := Lib.hid hR
 rw [World.size_alloc] at HR
 clear hR
 go_upto_if 10 with fail
 go_cut [] (fun wx => ∃ (An : Option Addr) (cn : Nat) (m : List (List UInt8)), Blk wx w1.heap.size 27 #[.slice An (List.length m) cn] ∧ RdI (.sl .str) (w.heap.size + 1) wx.heap.size wx [.slice An (List.length m) cn] m ∧ validName m = true ∧ CurT wx B ∧ Dr B w1 wx)
 case first =>
  by_cases h0 : n.length = 0
  ·go_wp2_with fail
   go_meet
   refine ⟨_, _, [[97]], (Blk.new _ _ _).alloc _, ?_, by decide, b_9, b_3⟩
   exact (GRow.ofRow rfl (Row.litA (base := w.heap.size + 1) b_35 b_33 (by rw [World.size_alloc]) b_35 b_35 b_33 b_27)).rdI
  ·go_wp2_with fail
   go_meet
   exact ⟨_, _, n, Blk.new _ _ _, (GRow.ofRow rfl (HR.out.below b_6)).rdI, hV, b_9, b_3⟩
 obtain ⟨WT, hWT⟩ : ∃ V, V = wc := ⟨_, rfl⟩
 subst hWT
 obtain ⟨An, cn, m, HN, hM, hV2, CT, ET⟩ := hcut
 have HM := Lib.hid hM
 have DT : Dr B w WT := hD1.trans ET
 have HO := Dr.blk ET hO1 b_34
 have zT : w1.heap.size < WT.heap.size := HN.lt
 clear hM HR
 clear hd1 hc1 hO1 hD1
 have HC : Hid (∀ V, Dr B WT V → V.cell? ⟨w1.heap.size, 0, none⟩ = some (.slice An m.length cn)) := fun V hV => (Dr.blk hV HN b_34).c1
 go_upto_region 4 with fail
 go_cut [4] (fun sp wx => ∃ (g : Nat) (A0 : Option Addr) (d0 : Nat) (A1 : Option Addr) (d1 : Nat) (A2 : Option Addr) (d2 : Nat) (y : Ty.D tData), sp = .pointer (some ⟨g, 0, none⟩) ∧ Blk wx g 46 #[.slice A0 (List.length y.1) d0, .slice A1 (List.length y.2.1) d1, .slice A2 (List.length y.2.2.1) d2, .int .i64 y.2.2.2.1, .int .i64 y.2.2.2.2] ∧ RdI tData (w.heap.size + 1) wx.heap.size wx [.slice A0 (List.length y.1) d0, .slice A1 (List.length y.2.1) d1, .slice A2 (List.length y.2.2.1) d2, .int .i64 y.2.2.2.1, .int .i64 y.2.2.2.2] y ∧ okThing y ∧ CurT wx B ∧ Dr B WT wx ∧ B < g ∧ w.heap.size < g)
 case first =>
  go_wp2_with fail
  refine wp_region_noPanic ?_
  refine wp_region_held_drew (S := (fun W => W.cell? ⟨w1.heap.size, 0, none⟩ = some (.slice An m.length cn))) b_31 ?_ (fun hHeld => ?_)
  ·exact HC.out _ b_3
  refine tkz4 0 1 2 5 ?_
  try simp only [layz]
  refine tkz 9 ?_
  try simp only [layz]
  refine rz3 3 6 13 (fun K hK => ?_) (fun K hK => ?_) (fun K hK => ?_)
  ·go_simp
   go_at_call 69
   refine Calls.mono (C_spec_l1Below _ B 5 (cuz CT) b_33 b_33) ?_
   rintro e w3 ⟨hd3, hc3, x3, rfl, hx3, hy3⟩
   obtain ⟨E3, z3⟩ := ez WT hd3
   obtain ⟨ka, rfl⟩ : ∃ k : Nat, x3 = k := ⟨x3.toNat, by omega⟩
   clear hd3
   refine hK.out _ _ (HC.out _ (drz E3)) (fun hHeld => ?_)
   clear hK K
   try simp only [layz]
   refine rz3 4 6 13 (fun K hK => ?_) (fun K hK => ?_) (fun K hK => ?_)
   ·go_simp
    go_at_call 149
    refine Calls.mono (C_spec_l1Bytes _ B ka (cuz hc3) b_34) ?_
    rintro e w4 ⟨hd4, hc4, A4, b, c4, fp4, rfl, how4, hfr4, hlb⟩
    obtain ⟨E4, z4⟩ := ez w3 hd4
    subst hlb
    obtain ⟨lb, hlb4⟩ : ∃ lb, lb = w3.heap.size := ⟨_, rfl⟩
    have HB := Lib.hid (show RdI (.sl .byte) lb w4.heap.size w4 _ b from oz how4 hfr4)
    clear how4 hfr4
    clear hd4
    refine hK.out _ _ (HC.out _ (drz (E3.trans E4))) (fun hHeld => ?_)
    clear hK K
    try simp only [layz]
    refine rz2 6 13 (fun K hK => ?_) (fun K hK => ?_)
    ·go_simp
     refine abs_world (fun w6 hw6 => ?_)
     obtain ⟨E6, hc6, z6⟩ := nz hw6 hc4
     have HL6 := Lib.hid (show RdI (.sl .str) w4.heap.size (w4.heap.size + 1) w6 [.slice (some ⟨w4.heap.size, 0, none⟩) 3 3] [[47, 107, 101, 121, 47, 97], [47, 107, 101, 121, 47, 98], [47, 97, 47, 107, 101, 121]] by rw [hw6]; exact b_4)
     clear hw6
     refine hK.out _ _ (HC.out _ (drz (E3.trans (E4.trans E6)))) (fun hHeld => ?_)
     clear hK K
     try simp only [layz]
     refine rz2 7 13 (fun K hK => ?_) (fun K hK => ?_)
     ·go_simp
      go_at_call 140
      refine Calls.mono (C_spec_l1Str _ B _ [[47, 107, 101, 121, 47, 97], [47, 107, 101, 121, 47, 98], [47, 97, 47, 107, 101, 121]] (cuz hc6) ((HL6.out.dr (B := B) (drz (Dr.refl B w6)) b_34).hide b_34) b_33 b_33) ?_
      rintro e w7 ⟨hd7, hc7, s, hs, rfl⟩
      obtain ⟨E7, z7⟩ := ez w6 hd7
      have hs3 := key3 hs
      have HS3 := Lib.hid hs3.1
      have hsl := hs3.2
      clear hs hs3
      clear hd7
      refine hK.out _ _ (HC.out _ (drz (E3.trans (E4.trans (E6.trans E7))))) (fun hHeld => ?_)
      clear hK K
      try simp only [layz]
      refine rz2 8 13 (fun K hK => ?_) (fun K hK => ?_)
      ·go_simp
       go_at_call 138
       refine Calls.mono (C_spec_l4Of _ s b_34) ?_
       rintro e w8 ⟨cs8, fp8, rfl, how8, hfr8, hb8⟩
       obtain ⟨E8, z8⟩ := ez w7 (Dr.of hb8 B)
       have hc8 : CurT w8 B := Cur.below (cuz hc7) hb8
       obtain ⟨A8, c8, rfl⟩ := Ty.ow_slv how8
       obtain ⟨lk, hlk⟩ : ∃ lk, lk = w7.heap.size := ⟨_, rfl⟩
       have HKN := Lib.hid (show RdI (.sl .str) lk w8.heap.size w8 _ (pnS s).1 from oz how8 hfr8)
       clear how8 hfr8
       generalize (pnS s).1 = kn at HKN HS3 ⊢
       clear hb8
       refine hK.out _ _ (HC.out _ (drz (E3.trans (E4.trans (E6.trans (E7.trans E8)))))) (fun hHeld => ?_)
       clear hK K
       try simp only [layz]
       refine rz2 10 13 (fun K hK => ?_) (fun K hK => ?_)
       ·go_simp
        go_at_call 69
        refine Calls.mono (C_spec_l1Below _ B 60 (cuz hc8) b_33 b_33) ?_
        rintro e w10 ⟨hd10, hc10, x10, rfl, hx10, hy10⟩
        obtain ⟨E10, z10⟩ := ez w8 hd10
        have hv10 : IntKind.i64.wrap (40 + x10) = 40 + x10 := IntWalk.i64_in _ b_34
        clear hd10
        refine hK.out _ _ (HC.out _ (drz (E3.trans (E4.trans (E6.trans (E7.trans (E8.trans E10))))))) (fun hHeld => ?_)
        clear hK K
        try simp only [layz]
        refine tkz2 11 12 ?_
        try simp only [layz]
        refine rz1 13 (fun K hK => ?_)
        go_simp
        refine abs_world (fun w13 hw13 => ?_)
        obtain ⟨E13, hc13, z13⟩ := nz hw13 hc10
        have hG13 : Blk w13 w10.heap.size 46 #[.slice none 0 0, .slice none 0 0, .slice none 0 0, .int .i64 0, .int .i64 0] := by rw [hw13]; exact b_21
        clear hw13
        refine hK.out _ _ (HC.out _ (drz (E3.trans (E4.trans (E6.trans (E7.trans (E8.trans (E10.trans E13)))))))) (fun hHeld => ?_)
        clear hK K
        try simp only [layz]
        refine rz1 14 (fun K hK => ?_)
        have hG : Blk w13 (w10.heap.size) 46 #[.slice none 0 0, .slice none 0 0, .slice none 0 0, .int .i64 0, .int .i64 0] := Dr.blk (Dr.refl B w13) hG13 b_34
        obtain ⟨k0, k1, k2, k3, k4, j0, j1, j2, j3, j4⟩ := blk5 hG
        have zG := hG.lt
        go_simp
        refine abs_world (fun w14 hw14 => ?_)
        obtain ⟨hG14, hK14, hs14, hc14, F14⟩ := stored5 (v0 := .slice An (List.length m) cn) (v1 := .slice A4 (List.length b) c4) (v2 := .slice A8 (List.length kn) c8) (v3 := .int .i64 (40 + x10)) (v4 := .int .i64 0) hG b_25 (B := B) b_34 hc13
        have F14 := F14 WT b_34 (E3.trans (E4.trans (E6.trans (E7.trans (E8.trans (E10.trans E13))))))
        have hM14 := HM.out.dr F14 b_34
        have hb14 := (HB.out.dr (E6.trans (E7.trans (E8.trans (E10.trans E13)))) b_34).keep hs14 (fun q h1 h2 => hK14 q b_34)
        have hk14 := (HKN.out.dr (E10.trans E13) b_34).keep hs14 (fun q h1 h2 => hK14 q b_34)
        clear hw14 hK14 hG
        refine hK.out _ _ (HC.out _ F14) (fun hHeld => ?_)
        clear hK K
        try simp only [layz]
        refine wpAnyH_done b_31 ?_ _
        refine NoPanic.normal ?_
        have mm : w14.heap.size ≤ w14.heap.size := Nat.le_refl _
        have QY : RdI tData (w.heap.size + 1) w14.heap.size w14 [.slice An (List.length m) cn, .slice A4 (List.length b) c4, .slice A8 (List.length kn) c8, .int .i64 (40 + x10), .int .i64 0] (m, b, kn, 40 + x10, 0) := RdI.data (x := (m, b, kn, 40 + x10, 0)) (hM14.mono (Nat.le_refl _) hM14.1 mm) (hb14.mono b_34 hb14.1 mm) (hk14.mono b_34 hk14.1 mm) (show -9223372036854775808 ≤ 40 + x10 ∧ 40 + x10 ≤ 9223372036854775807 by omega) (show -9223372036854775808 ≤ (0 : Int) ∧ (0 : Int) ≤ 9223372036854775807 by decide)
        go_wp2_with fail
        go_meet
        exact ⟨w10.heap.size, An, cn, A4, c4, A8, c8, (m, b, kn, 40 + x10, 0), rfl, hG14, QY, ⟨okAny.of _ hV2, (show List.length b ≤ 61 by omega), HS3.out⟩, hc14, F14, by omega, by omega⟩
       ·go_simp
        refine abs_world (fun w13 hw13 => ?_)
        obtain ⟨E13, hc13, z13⟩ := nz hw13 hc8
        have hG13 : Blk w13 w8.heap.size 46 #[.slice none 0 0, .slice none 0 0, .slice none 0 0, .int .i64 0, .int .i64 0] := by rw [hw13]; exact b_21
        clear hw13
        refine hK.out _ _ (HC.out _ (drz (E3.trans (E4.trans (E6.trans (E7.trans (E8.trans E13))))))) (fun hHeld => ?_)
        clear hK K
        try simp only [layz]
        refine rz1 10 (fun K hK => ?_)
        go_simp
        go_at_call 69
        refine Calls.mono (C_spec_l1Below _ B 60 (cuz hc13) b_33 b_33) ?_
        rintro e w10 ⟨hd10, hc10, x10, rfl, hx10, hy10⟩
        obtain ⟨E10, z10⟩ := ez w13 hd10
        have hv10 : IntKind.i64.wrap (40 + x10) = 40 + x10 := IntWalk.i64_in _ b_34
        clear hd10
        refine hK.out _ _ (HC.out _ (drz (E3.trans (E4.trans (E6.trans (E7.trans (E8.trans (E13.trans E10)))))))) (fun hHeld => ?_)
        clear hK K
        try simp only [layz]
        refine tkz2 11 12 ?_
        try simp only [layz]
        refine rz1 14 (fun K hK => ?_)
        have hG : Blk w10 (w8.heap.size) 46 #[.slice none 0 0, .slice none 0 0, .slice none 0 0, .int .i64 0, .int .i64 0] := Dr.blk E10 hG13 b_34
        obtain ⟨k0, k1, k2, k3, k4, j0, j1, j2, j3, j4⟩ := blk5 hG
        have zG := hG.lt
        go_simp
        refine abs_world (fun w14 hw14 => ?_)
        obtain ⟨hG14, hK14, hs14, hc14, F14⟩ := stored5 (v0 := .slice An (List.length m) cn) (v1 := .slice A4 (List.length b) c4) (v2 := .slice A8 (List.length kn) c8) (v3 := .int .i64 (40 + x10)) (v4 := .int .i64 0) hG b_25 (B := B) b_34 hc10
        have F14 := F14 WT b_34 (E3.trans (E4.trans (E6.trans (E7.trans (E8.trans (E13.trans E10))))))
        have hM14 := HM.out.dr F14 b_34
        have hb14 := (HB.out.dr (E6.trans (E7.trans (E8.trans (E13.trans E10)))) b_34).keep hs14 (fun q h1 h2 => hK14 q b_34)
        have hk14 := (HKN.out.dr (E13.trans E10) b_34).keep hs14 (fun q h1 h2 => hK14 q b_34)
        clear hw14 hK14 hG
        refine hK.out _ _ (HC.out _ F14) (fun hHeld => ?_)
        clear hK K
        try simp only [layz]
        refine wpAnyH_done b_31 ?_ _
        refine NoPanic.normal ?_
        have mm : w14.heap.size ≤ w14.heap.size := Nat.le_refl _
        have QY : RdI tData (w.heap.size + 1) w14.heap.size w14 [.slice An (List.length m) cn, .slice A4 (List.length b) c4, .slice A8 (List.length kn) c8, .int .i64 (40 + x10), .int .i64 0] (m, b, kn, 40 + x10, 0) := RdI.data (x := (m, b, kn, 40 + x10, 0)) (hM14.mono (Nat.le_refl _) hM14.1 mm) (hb14.mono b_34 hb14.1 mm) (hk14.mono b_34 hk14.1 mm) (show -9223372036854775808 ≤ 40 + x10 ∧ 40 + x10 ≤ 9223372036854775807 by omega) (show -9223372036854775808 ≤ (0 : Int) ∧ (0 : Int) ≤ 9223372036854775807 by decide)
        go_wp2_with fail
        go_meet
        exact ⟨w8.heap.size, An, cn, A4, c4, A8, c8, (m, b, kn, 40 + x10, 0), rfl, hG14, QY, ⟨okAny.of _ hV2, (show List.length b ≤ 61 by omega), HS3.out⟩, hc14, F14, by omega, by omega⟩
      ·go_simp
       refine abs_world (fun w13 hw13 => ?_)
       obtain ⟨E13, hc13, z13⟩ := nz hw13 hc7
       have hG13 : Blk w13 w7.heap.size 46 #[.slice none 0 0, .slice none 0 0, .slice none 0 0, .int .i64 0, .int .i64 0] := by rw [hw13]; exact b_21
       clear hw13
       refine hK.out _ _ (HC.out _ (drz (E3.trans (E4.trans (E6.trans (E7.trans E13)))))) (fun hHeld => ?_)
       clear hK K
       try simp only [layz]
       refine rz1 8 (fun K hK => ?_)
       go_simp
       go_at_call 138
       refine Calls.mono (C_spec_l4Of _ s b_34) ?_
       rintro e w8 ⟨cs8, fp8, rfl, how8, hfr8, hb8⟩
       obtain ⟨E8, z8⟩ := ez w13 (Dr.of hb8 B)
       have hc8 : CurT w8 B := Cur.below (cuz hc13) hb8
       obtain ⟨A8, c8, rfl⟩ := Ty.ow_slv how8
       obtain ⟨lk, hlk⟩ : ∃ lk, lk = w13.heap.size := ⟨_, rfl⟩
       have HKN := Lib.hid (show RdI (.sl .str) lk w8.heap.size w8 _ (pnS s).1 from oz how8 hfr8)
       clear how8 hfr8
       generalize (pnS s).1 = kn at HKN HS3 ⊢
       clear hb8
       refine hK.out _ _ (HC.out _ (drz (E3.trans (E4.trans (E6.trans (E7.trans (E13.trans E8))))))) (fun hHeld => ?_)
       clear hK K
       try simp only [layz]
       refine rz1 10 (fun K hK => ?_)
       go_simp
       go_at_call 69
       refine Calls.mono (C_spec_l1Below _ B 60 (cuz hc8) b_33 b_33) ?_
       rintro e w10 ⟨hd10, hc10, x10, rfl, hx10, hy10⟩
       obtain ⟨E10, z10⟩ := ez w8 hd10
       have hv10 : IntKind.i64.wrap (40 + x10) = 40 + x10 := IntWalk.i64_in _ b_34
       clear hd10
       refine hK.out _ _ (HC.out _ (drz (E3.trans (E4.trans (E6.trans (E7.trans (E13.trans (E8.trans E10)))))))) (fun hHeld => ?_)
       clear hK K
       try simp only [layz]
       refine tkz2 11 12 ?_
       try simp only [layz]
       refine rz1 14 (fun K hK => ?_)
       have hG : Blk w10 (w7.heap.size) 46 #[.slice none 0 0, .slice none 0 0, .slice none 0 0, .int .i64 0, .int .i64 0] := Dr.blk (E8.trans E10) hG13 b_34
       obtain ⟨k0, k1, k2, k3, k4, j0, j1, j2, j3, j4⟩ := blk5 hG
       have zG := hG.lt
       go_simp
       refine abs_world (fun w14 hw14 => ?_)
       obtain ⟨hG14, hK14, hs14, hc14, F14⟩ := stored5 (v0 := .slice An (List.length m) cn) (v1 := .slice A4 (List.length b) c4) (v2 := .slice A8 (List.length kn) c8) (v3 := .int .i64 (40 + x10)) (v4 := .int .i64 0) hG b_25 (B := B) b_34 hc10
       have F14 := F14 WT b_34 (E3.trans (E4.trans (E6.trans (E7.trans (E13.trans (E8.trans E10))))))
       have hM14 := HM.out.dr F14 b_34
       have hb14 := (HB.out.dr (E6.trans (E7.trans (E13.trans (E8.trans E10)))) b_34).keep hs14 (fun q h1 h2 => hK14 q b_34)
       have hk14 := (HKN.out.dr E10 b_34).keep hs14 (fun q h1 h2 => hK14 q b_34)
       clear hw14 hK14 hG
       refine hK.out _ _ (HC.out _ F14) (fun hHeld => ?_)
       clear hK K
       try simp only [layz]
       refine wpAnyH_done b_31 ?_ _
       refine NoPanic.normal ?_
       have mm : w14.heap.size ≤ w14.heap.size := Nat.le_refl _
       have QY : RdI tData (w.heap.size + 1) w14.heap.size w14 [.slice An (List.length m) cn, .slice A4 (List.length b) c4, .slice A8 (List.length kn) c8, .int .i64 (40 + x10), .int .i64 0] (m, b, kn, 40 + x10, 0) := RdI.data (x := (m, b, kn, 40 + x10, 0)) (hM14.mono (Nat.le_refl _) hM14.1 mm) (hb14.mono b_34 hb14.1 mm) (hk14.mono b_34 hk14.1 mm) (show -9223372036854775808 ≤ 40 + x10 ∧ 40 + x10 ≤ 9223372036854775807 by omega) (show -9223372036854775808 ≤ (0 : Int) ∧ (0 : Int) ≤ 9223372036854775807 by decide)
       go_wp2_with fail
       go_meet
       exact ⟨w7.heap.size, An, cn, A4, c4, A8, c8, (m, b, kn, 40 + x10, 0), rfl, hG14, QY, ⟨okAny.of _ hV2, (show List.length b ≤ 61 by omega), HS3.out⟩, hc14, F14, by omega, by omega⟩
     ·go_simp
      refine abs_world (fun w13 hw13 => ?_)
      obtain ⟨E13, hc13, z13⟩ := nz hw13 hc6
      have hG13 : Blk w13 w6.heap.size 46 #[.slice none 0 0, .slice none 0 0, .slice none 0 0, .int .i64 0, .int .i64 0] := by rw [hw13]; exact b_21
      clear hw13
      refine hK.out _ _ (HC.out _ (drz (E3.trans (E4.trans (E6.trans E13))))) (fun hHeld => ?_)
      clear hK K
      try simp only [layz]
      refine rz1 7 (fun K hK => ?_)
      go_simp
      go_at_call 140
      refine Calls.mono (C_spec_l1Str _ B _ [[47, 107, 101, 121, 47, 97], [47, 107, 101, 121, 47, 98], [47, 97, 47, 107, 101, 121]] (cuz hc13) ((HL6.out.dr (B := B) (drz E13) b_34).hide b_34) b_33 b_33) ?_
      rintro e w7 ⟨hd7, hc7, s, hs, rfl⟩
      obtain ⟨E7, z7⟩ := ez w13 hd7
      have hs3 := key3 hs
      have HS3 := Lib.hid hs3.1
      have hsl := hs3.2
      clear hs hs3
      clear hd7
      refine hK.out _ _ (HC.out _ (drz (E3.trans (E4.trans (E6.trans (E13.trans E7)))))) (fun hHeld => ?_)
      clear hK K
      try simp only [layz]
      refine rz1 8 (fun K hK => ?_)
      go_simp
      go_at_call 138
      refine Calls.mono (C_spec_l4Of _ s b_34) ?_
      rintro e w8 ⟨cs8, fp8, rfl, how8, hfr8, hb8⟩
      obtain ⟨E8, z8⟩ := ez w7 (Dr.of hb8 B)
      have hc8 : CurT w8 B := Cur.below (cuz hc7) hb8
      obtain ⟨A8, c8, rfl⟩ := Ty.ow_slv how8
      obtain ⟨lk, hlk⟩ : ∃ lk, lk = w7.heap.size := ⟨_, rfl⟩
      have HKN := Lib.hid (show RdI (.sl .str) lk w8.heap.size w8 _ (pnS s).1 from oz how8 hfr8)
      clear how8 hfr8
      generalize (pnS s).1 = kn at HKN HS3 ⊢
      clear hb8
      refine hK.out _ _ (HC.out _ (drz (E3.trans (E4.trans (E6.trans (E13.trans (E7.trans E8))))))) (fun hHeld => ?_)
      clear hK K
      try simp only [layz]
      refine rz1 10 (fun K hK => ?_)
      go_simp
      go_at_call 69
      refine Calls.mono (C_spec_l1Below _ B 60 (cuz hc8) b_33 b_33) ?_
      rintro e w10 ⟨hd10, hc10, x10, rfl, hx10, hy10⟩
      obtain ⟨E10, z10⟩ := ez w8 hd10
      have hv10 : IntKind.i64.wrap (40 + x10) = 40 + x10 := IntWalk.i64_in _ b_34
      clear hd10
      refine hK.out _ _ (HC.out _ (drz (E3.trans (E4.trans (E6.trans (E13.trans (E7.trans (E8.trans E10)))))))) (fun hHeld => ?_)
      clear hK K
      try simp only [layz]
      refine tkz2 11 12 ?_
      try simp only [layz]
      refine rz1 14 (fun K hK => ?_)
      have hG : Blk w10 (w6.heap.size) 46 #[.slice none 0 0, .slice none 0 0, .slice none 0 0, .int .i64 0, .int .i64 0] := Dr.blk (E7.trans (E8.trans E10)) hG13 b_34
      obtain ⟨k0, k1, k2, k3, k4, j0, j1, j2, j3, j4⟩ := blk5 hG
      have zG := hG.lt
      go_simp
      refine abs_world (fun w14 hw14 => ?_)
      obtain ⟨hG14, hK14, hs14, hc14, F14⟩ := stored5 (v0 := .slice An (List.length m) cn) (v1 := .slice A4 (List.length b) c4) (v2 := .slice A8 (List.length kn) c8) (v3 := .int .i64 (40 + x10)) (v4 := .int .i64 0) hG b_25 (B := B) b_34 hc10
      have F14 := F14 WT b_34 (E3.trans (E4.trans (E6.trans (E13.trans (E7.trans (E8.trans E10))))))
      have hM14 := HM.out.dr F14 b_34
      have hb14 := (HB.out.dr (E6.trans (E13.trans (E7.trans (E8.trans E10)))) b_34).keep hs14 (fun q h1 h2 => hK14 q b_34)
      have hk14 := (HKN.out.dr E10 b_34).keep hs14 (fun q h1 h2 => hK14 q b_34)
      clear hw14 hK14 hG
      refine hK.out _ _ (HC.out _ F14) (fun hHeld => ?_)
      clear hK K
      try simp only [layz]
      refine wpAnyH_done b_31 ?_ _
      refine NoPanic.normal ?_
      have mm : w14.heap.size ≤ w14.heap.size := Nat.le_refl _
      have QY : RdI tData (w.heap.size + 1) w14.heap.size w14 [.slice An (List.length m) cn, .slice A4 (List.length b) c4, .slice A8 (List.length kn) c8, .int .i64 (40 + x10), .int .i64 0] (m, b, kn, 40 + x10, 0) := RdI.data (x := (m, b, kn, 40 + x10, 0)) (hM14.mono (Nat.le_refl _) hM14.1 mm) (hb14.mono b_34 hb14.1 mm) (hk14.mono b_34 hk14.1 mm) (show -9223372036854775808 ≤ 40 + x10 ∧ 40 + x10 ≤ 9223372036854775807 by omega) (show -9223372036854775808 ≤ (0 : Int) ∧ (0 : Int) ≤ 9223372036854775807 by decide)
      go_wp2_with fail
      go_meet
      exact ⟨w6.heap.size, An, cn, A4, c4, A8, c8, (m, b, kn, 40 + x10, 0), rfl, hG14, QY, ⟨okAny.of _ hV2, (show List.length b ≤ 61 by omega), HS3.out⟩, hc14, F14, by omega, by omega⟩
    ·go_simp
     refine abs_world (fun w13 hw13 => ?_)
     obtain ⟨E13, hc13, z13⟩ := nz hw13 hc4
     have hG13 : Blk w13 w4.heap.size 46 #[.slice none 0 0, .slice none 0 0, .slice none 0 0, .int .i64 0, .int .i64 0] := by rw [hw13]; exact b_21
     clear hw13
     refine hK.out _ _ (HC.out _ (drz (E3.trans (E4.trans E13)))) (fun hHeld => ?_)
     clear hK K
     try simp only [layz]
     refine rz1 6 (fun K hK => ?_)
     go_simp
     refine abs_world (fun w6 hw6 => ?_)
     obtain ⟨E6, hc6, z6⟩ := nz hw6 hc13
     have HL6 := Lib.hid (show RdI (.sl .str) w13.heap.size (w13.heap.size + 1) w6 [.slice (some ⟨w13.heap.size, 0, none⟩) 3 3] [[47, 107, 101, 121, 47, 97], [47, 107, 101, 121, 47, 98], [47, 97, 47, 107, 101, 121]] by rw [hw6]; exact b_4)
     clear hw6
     refine hK.out _ _ (HC.out _ (drz (E3.trans (E4.trans (E13.trans E6))))) (fun hHeld => ?_)
     clear hK K
     try simp only [layz]
     refine rz1 7 (fun K hK => ?_)
     go_simp
     go_at_call 140
     refine Calls.mono (C_spec_l1Str _ B _ [[47, 107, 101, 121, 47, 97], [47, 107, 101, 121, 47, 98], [47, 97, 47, 107, 101, 121]] (cuz hc6) ((HL6.out.dr (B := B) (drz (Dr.refl B w6)) b_34).hide b_34) b_33 b_33) ?_
     rintro e w7 ⟨hd7, hc7, s, hs, rfl⟩
     obtain ⟨E7, z7⟩ := ez w6 hd7
     have hs3 := key3 hs
     have HS3 := Lib.hid hs3.1
     have hsl := hs3.2
     clear hs hs3
     clear hd7
     refine hK.out _ _ (HC.out _ (drz (E3.trans (E4.trans (E13.trans (E6.trans E7)))))) (fun hHeld => ?_)
     clear hK K
     try simp only [layz]
     refine rz1 8 (fun K hK => ?_)
     go_simp
     go_at_call 138
     refine Calls.mono (C_spec_l4Of _ s b_34) ?_
     rintro e w8 ⟨cs8, fp8, rfl, how8, hfr8, hb8⟩
     obtain ⟨E8, z8⟩ := ez w7 (Dr.of hb8 B)
     have hc8 : CurT w8 B := Cur.below (cuz hc7) hb8
     obtain ⟨A8, c8, rfl⟩ := Ty.ow_slv how8
     obtain ⟨lk, hlk⟩ : ∃ lk, lk = w7.heap.size := ⟨_, rfl⟩
     have HKN := Lib.hid (show RdI (.sl .str) lk w8.heap.size w8 _ (pnS s).1 from oz how8 hfr8)
     clear how8 hfr8
     generalize (pnS s).1 = kn at HKN HS3 ⊢
     clear hb8
     refine hK.out _ _ (HC.out _ (drz (E3.trans (E4.trans (E13.trans (E6.trans (E7.trans E8))))))) (fun hHeld => ?_)
     clear hK K
     try simp only [layz]
     refine rz1 10 (fun K hK => ?_)
     go_simp
     go_at_call 69
     refine Calls.mono (C_spec_l1Below _ B 60 (cuz hc8) b_33 b_33) ?_
     rintro e w10 ⟨hd10, hc10, x10, rfl, hx10, hy10⟩
     obtain ⟨E10, z10⟩ := ez w8 hd10
     have hv10 : IntKind.i64.wrap (40 + x10) = 40 + x10 := IntWalk.i64_in _ b_34
     clear hd10
     refine hK.out _ _ (HC.out _ (drz (E3.trans (E4.trans (E13.trans (E6.trans (E7.trans (E8.trans E10)))))))) (fun hHeld => ?_)
     clear hK K
     try simp only [layz]
     refine tkz2 11 12 ?_
     try simp only [layz]
     refine rz1 14 (fun K hK => ?_)
     have hG : Blk w10 (w4.heap.size) 46 #[.slice none 0 0, .slice none 0 0, .slice none 0 0, .int .i64 0, .int .i64 0] := Dr.blk (E6.trans (E7.trans (E8.trans E10))) hG13 b_34
     obtain ⟨k0, k1, k2, k3, k4, j0, j1, j2, j3, j4⟩ := blk5 hG
     have zG := hG.lt
     go_simp
     refine abs_world (fun w14 hw14 => ?_)
     obtain ⟨hG14, hK14, hs14, hc14, F14⟩ := stored5 (v0 := .slice An (List.length m) cn) (v1 := .slice A4 (List.length b) c4) (v2 := .slice A8 (List.length kn) c8) (v3 := .int .i64 (40 + x10)) (v4 := .int .i64 0) hG b_25 (B := B) b_34 hc10
     have F14 := F14 WT b_34 (E3.trans (E4.trans (E13.trans (E6.trans (E7.trans (E8.trans E10))))))
     have hM14 := HM.out.dr F14 b_34
     have hb14 := (HB.out.dr (E13.trans (E6.trans (E7.trans (E8.trans E10)))) b_34).keep hs14 (fun q h1 h2 => hK14 q b_34)
     have hk14 := (HKN.out.dr E10 b_34).keep hs14 (fun q h1 h2 => hK14 q b_34)
     clear hw14 hK14 hG
     refine hK.out _ _ (HC.out _ F14) (fun hHeld => ?_)
     clear hK K
     try simp only [layz]
     refine wpAnyH_done b_31 ?_ _
     refine NoPanic.normal ?_
     have mm : w14.heap.size ≤ w14.heap.size := Nat.le_refl _
     have QY : RdI tData (w.heap.size + 1) w14.heap.size w14 [.slice An (List.length m) cn, .slice A4 (List.length b) c4, .slice A8 (List.length kn) c8, .int .i64 (40 + x10), .int .i64 0] (m, b, kn, 40 + x10, 0) := RdI.data (x := (m, b, kn, 40 + x10, 0)) (hM14.mono (Nat.le_refl _) hM14.1 mm) (hb14.mono b_34 hb14.1 mm) (hk14.mono b_34 hk14.1 mm) (show -9223372036854775808 ≤ 40 + x10 ∧ 40 + x10 ≤ 9223372036854775807 by omega) (show -9223372036854775808 ≤ (0 : Int) ∧ (0 : Int) ≤ 9223372036854775807 by decide)
     go_wp2_with fail
     go_meet
     exact ⟨w4.heap.size, An, cn, A4, c4, A8, c8, (m, b, kn, 40 + x10, 0), rfl, hG14, QY, ⟨okAny.of _ hV2, (show List.length b ≤ 61 by omega), HS3.out⟩, hc14, F14, by omega, by omega⟩
   ·go_simp
    refine abs_world (fun w6 hw6 => ?_)
    obtain ⟨E6, hc6, z6⟩ := nz hw6 hc3
    have HL6 := Lib.hid (show RdI (.sl .str) w3.heap.size (w3.heap.size + 1) w6 [.slice (some ⟨w3.heap.size, 0, none⟩) 3 3] [[47, 107, 101, 121, 47, 97], [47, 107, 101, 121, 47, 98], [47, 97, 47, 107, 101, 121]] by rw [hw6]; exact b_4)
    clear hw6
    refine hK.out _ _ (HC.out _ (drz (E3.trans E6))) (fun hHeld => ?_)
    clear hK K
    try simp only [layz]
    refine rz2 4 13 (fun K hK => ?_) (fun K hK => ?_)
    ·go_simp
     go_at_call 149
     refine Calls.mono (C_spec_l1Bytes _ B ka (cuz hc6) b_34) ?_
     rintro e w4 ⟨hd4, hc4, A4, b, c4, fp4, rfl, how4, hfr4, hlb⟩
     obtain ⟨E4, z4⟩ := ez w6 hd4
     subst hlb
     obtain ⟨lb, hlb4⟩ : ∃ lb, lb = w6.heap.size := ⟨_, rfl⟩
     have HB := Lib.hid (show RdI (.sl .byte) lb w4.heap.size w4 _ b from oz how4 hfr4)
     clear how4 hfr4
     clear hd4
     refine hK.out _ _ (HC.out _ (drz (E3.trans (E6.trans E4)))) (fun hHeld => ?_)
     clear hK K
     try simp only [layz]
     refine rz2 7 13 (fun K hK => ?_) (fun K hK => ?_)
     ·go_simp
      go_at_call 140
      refine Calls.mono (C_spec_l1Str _ B _ [[47, 107, 101, 121, 47, 97], [47, 107, 101, 121, 47, 98], [47, 97, 47, 107, 101, 121]] (cuz hc4) ((HL6.out.dr (B := B) (drz E4) b_34).hide b_34) b_33 b_33) ?_
      rintro e w7 ⟨hd7, hc7, s, hs, rfl⟩
      obtain ⟨E7, z7⟩ := ez w4 hd7
      have hs3 := key3 hs
      have HS3 := Lib.hid hs3.1
      have hsl := hs3.2
      clear hs hs3
      clear hd7
      refine hK.out _ _ (HC.out _ (drz (E3.trans (E6.trans (E4.trans E7))))) (fun hHeld => ?_)
      clear hK K
      try simp only [layz]
      refine rz2 8 13 (fun K hK => ?_) (fun K hK => ?_)
      ·go_simp
       go_at_call 138
       refine Calls.mono (C_spec_l4Of _ s b_34) ?_
       rintro e w8 ⟨cs8, fp8, rfl, how8, hfr8, hb8⟩
       obtain ⟨E8, z8⟩ := ez w7 (Dr.of hb8 B)
       have hc8 : CurT w8 B := Cur.below (cuz hc7) hb8
       obtain ⟨A8, c8, rfl⟩ := Ty.ow_slv how8
       obtain ⟨lk, hlk⟩ : ∃ lk, lk = w7.heap.size := ⟨_, rfl⟩
       have HKN := Lib.hid (show RdI (.sl .str) lk w8.heap.size w8 _ (pnS s).1 from oz how8 hfr8)
       clear how8 hfr8
       generalize (pnS s).1 = kn at HKN HS3 ⊢
       clear hb8
       refine hK.out _ _ (HC.out _ (drz (E3.trans (E6.trans (E4.trans (E7.trans E8)))))) (fun hHeld => ?_)
       clear hK K
       try simp only [layz]
       refine rz2 10 13 (fun K hK => ?_) (fun K hK => ?_)
       ·go_simp
        go_at_call 69
        refine Calls.mono (C_spec_l1Below _ B 60 (cuz hc8) b_33 b_33) ?_
        rintro e w10 ⟨hd10, hc10, x10, rfl, hx10, hy10⟩
        obtain ⟨E10, z10⟩ := ez w8 hd10
        have hv10 : IntKind.i64.wrap (40 + x10) = 40 + x10 := IntWalk.i64_in _ b_34
        clear hd10
        refine hK.out _ _ (HC.out _ (drz (E3.trans (E6.trans (E4.trans (E7.trans (E8.trans E10))))))) (fun hHeld => ?_)
        clear hK K
        try simp only [layz]
        refine tkz2 11 12 ?_
        try simp only [layz]
        refine rz1 13 (fun K hK => ?_)
        go_simp
        refine abs_world (fun w13 hw13 => ?_)
        obtain ⟨E13, hc13, z13⟩ := nz hw13 hc10
        have hG13 : Blk w13 w10.heap.size 46 #[.slice none 0 0, .slice none 0 0, .slice none 0 0, .int .i64 0, .int .i64 0] := by rw [hw13]; exact b_21
        clear hw13
        refine hK.out _ _ (HC.out _ (drz (E3.trans (E6.trans (E4.trans (E7.trans (E8.trans (E10.trans E13)))))))) (fun hHeld => ?_)
        clear hK K
        try simp only [layz]
        refine rz1 14 (fun K hK => ?_)
        have hG : Blk w13 (w10.heap.size) 46 #[.slice none 0 0, .slice none 0 0, .slice none 0 0, .int .i64 0, .int .i64 0] := Dr.blk (Dr.refl B w13) hG13 b_34
        obtain ⟨k0, k1, k2, k3, k4, j0, j1, j2, j3, j4⟩ := blk5 hG
        have zG := hG.lt
        go_simp
        refine abs_world (fun w14 hw14 => ?_)
        obtain ⟨hG14, hK14, hs14, hc14, F14⟩ := stored5 (v0 := .slice An (List.length m) cn) (v1 := .slice A4 (List.length b) c4) (v2 := .slice A8 (List.length kn) c8) (v3 := .int .i64 (40 + x10)) (v4 := .int .i64 0) hG b_25 (B := B) b_34 hc13
        have F14 := F14 WT b_34 (E3.trans (E6.trans (E4.trans (E7.trans (E8.trans (E10.trans E13))))))
        have hM14 := HM.out.dr F14 b_34
        have hb14 := (HB.out.dr (E7.trans (E8.trans (E10.trans E13))) b_34).keep hs14 (fun q h1 h2 => hK14 q b_34)
        have hk14 := (HKN.out.dr (E10.trans E13) b_34).keep hs14 (fun q h1 h2 => hK14 q b_34)
        clear hw14 hK14 hG
        refine hK.out _ _ (HC.out _ F14) (fun hHeld => ?_)
        clear hK K
        try simp only [layz]
        refine wpAnyH_done b_31 ?_ _
        refine NoPanic.normal ?_
        have mm : w14.heap.size ≤ w14.heap.size := Nat.le_refl _
        have QY : RdI tData (w.heap.size + 1) w14.heap.size w14 [.slice An (List.length m) cn, .slice A4 (List.length b) c4, .slice A8 (List.length kn) c8, .int .i64 (40 + x10), .int .i64 0] (m, b, kn, 40 + x10, 0) := RdI.data (x := (m, b, kn, 40 + x10, 0)) (hM14.mono (Nat.le_refl _) hM14.1 mm) (hb14.mono b_34 hb14.1 mm) (hk14.mono b_34 hk14.1 mm) (show -9223372036854775808 ≤ 40 + x10 ∧ 40 + x10 ≤ 9223372036854775807 by omega) (show -9223372036854775808 ≤ (0 : Int) ∧ (0 : Int) ≤ 9223372036854775807 by decide)
        go_wp2_with fail
        go_meet
        exact ⟨w10.heap.size, An, cn, A4, c4, A8, c8, (m, b, kn, 40 + x10, 0), rfl, hG14, QY, ⟨okAny.of _ hV2, (show List.length b ≤ 61 by omega), HS3.out⟩, hc14, F14, by omega, by omega⟩
       ·go_simp
        refine abs_world (fun w13 hw13 => ?_)
        obtain ⟨E13, hc13, z13⟩ := nz hw13 hc8
        have hG13 : Blk w13 w8.heap.size 46 #[.slice none 0 0, .slice none 0 0, .slice none 0 0, .int .i64 0, .int .i64 0] := by rw [hw13]; exact b_21
        clear hw13
        refine hK.out _ _ (HC.out _ (drz (E3.trans (E6.trans (E4.trans (E7.trans (E8.trans E13))))))) (fun hHeld => ?_)
        clear hK K
        try simp only [layz]
        refine rz1 10 (fun K hK => ?_)
        go_simp
        go_at_call 69
        refine Calls.mono (C_spec_l1Below _ B 60 (cuz hc13) b_33 b_33) ?_
        rintro e w10 ⟨hd10, hc10, x10, rfl, hx10, hy10⟩
        obtain ⟨E10, z10⟩ := ez w13 hd10
        have hv10 : IntKind.i64.wrap (40 + x10) = 40 + x10 := IntWalk.i64_in _ b_34
        clear hd10
        refine hK.out _ _ (HC.out _ (drz (E3.trans (E6.trans (E4.trans (E7.trans (E8.trans (E13.trans E10)))))))) (fun hHeld => ?_)
        clear hK K
        try simp only [layz]
        refine tkz2 11 12 ?_
        try simp only [layz]
        refine rz1 14 (fun K hK => ?_)
        have hG : Blk w10 (w8.heap.size) 46 #[.slice none 0 0, .slice none 0 0, .slice none 0 0, .int .i64 0, .int .i64 0] := Dr.blk E10 hG13 b_34
        obtain ⟨k0, k1, k2, k3, k4, j0, j1, j2, j3, j4⟩ := blk5 hG
        have zG := hG.lt
        go_simp
        refine abs_world (fun w14 hw14 => ?_)
        obtain ⟨hG14, hK14, hs14, hc14, F14⟩ := stored5 (v0 := .slice An (List.length m) cn) (v1 := .slice A4 (List.length b) c4) (v2 := .slice A8 (List.length kn) c8) (v3 := .int .i64 (40 + x10)) (v4 := .int .i64 0) hG b_25 (B := B) b_34 hc10
        have F14 := F14 WT b_34 (E3.trans (E6.trans (E4.trans (E7.trans (E8.trans (E13.trans E10))))))
        have hM14 := HM.out.dr F14 b_34
        have hb14 := (HB.out.dr (E7.trans (E8.trans (E13.trans E10))) b_34).keep hs14 (fun q h1 h2 => hK14 q b_34)
        have hk14 := (HKN.out.dr (E13.trans E10) b_34).keep hs14 (fun q h1 h2 => hK14 q b_34)
        clear hw14 hK14 hG
        refine hK.out _ _ (HC.out _ F14) (fun hHeld => ?_)
        clear hK K
        try simp only [layz]
        refine wpAnyH_done b_31 ?_ _
        refine NoPanic.normal ?_
        have mm : w14.heap.size ≤ w14.heap.size := Nat.le_refl _
        have QY : RdI tData (w.heap.size + 1) w14.heap.size w14 [.slice An (List.length m) cn, .slice A4 (List.length b) c4, .slice A8 (List.length kn) c8, .int .i64 (40 + x10), .int .i64 0] (m, b, kn, 40 + x10, 0) := RdI.data (x := (m, b, kn, 40 + x10, 0)) (hM14.mono (Nat.le_refl _) hM14.1 mm) (hb14.mono b_34 hb14.1 mm) (hk14.mono b_34 hk14.1 mm) (show -9223372036854775808 ≤ 40 + x10 ∧ 40 + x10 ≤ 9223372036854775807 by omega) (show -9223372036854775808 ≤ (0 : Int) ∧ (0 : Int) ≤ 9223372036854775807 by decide)
        go_wp2_with fail
        go_meet
        exact ⟨w8.heap.size, An, cn, A4, c4, A8, c8, (m, b, kn, 40 + x10, 0), rfl, hG14, QY, ⟨okAny.of _ hV2, (show List.length b ≤ 61 by omega), HS3.out⟩, hc14, F14, by omega, by omega⟩
      ·go_simp
       refine abs_world (fun w13 hw13 => ?_)
       obtain ⟨E13, hc13, z13⟩ := nz hw13 hc7
       have hG13 : Blk w13 w7.heap.size 46 #[.slice none 0 0, .slice none 0 0, .slice none 0 0, .int .i64 0, .int .i64 0] := by rw [hw13]; exact b_21
       clear hw13
       refine hK.out _ _ (HC.out _ (drz (E3.trans (E6.trans (E4.trans (E7.trans E13)))))) (fun hHeld => ?_)
       clear hK K
       try simp only [layz]
       refine rz1 8 (fun K hK => ?_)
       go_simp
       go_at_call 138
       refine Calls.mono (C_spec_l4Of _ s b_34) ?_
       rintro e w8 ⟨cs8, fp8, rfl, how8, hfr8, hb8⟩
       obtain ⟨E8, z8⟩ := ez w13 (Dr.of hb8 B)
       have hc8 : CurT w8 B := Cur.below (cuz hc13) hb8
       obtain ⟨A8, c8, rfl⟩ := Ty.ow_slv how8
       obtain ⟨lk, hlk⟩ : ∃ lk, lk = w13.heap.size := ⟨_, rfl⟩
       have HKN := Lib.hid (show RdI (.sl .str) lk w8.heap.size w8 _ (pnS s).1 from oz how8 hfr8)
       clear how8 hfr8
       generalize (pnS s).1 = kn at HKN HS3 ⊢
       clear hb8
       refine hK.out _ _ (HC.out _ (drz (E3.trans (E6.trans (E4.trans (E7.trans (E13.trans E8))))))) (fun hHeld => ?_)
       clear hK K
       try simp only [layz]
       refine rz1 10 (fun K hK => ?_)
       go_simp
       go_at_call 69
       refine Calls.mono (C_spec_l1Below _ B 60 (cuz hc8) b_33 b_33) ?_
       rintro e w10 ⟨hd10, hc10, x10, rfl, hx10, hy10⟩
       obtain ⟨E10, z10⟩ := ez w8 hd10
       have hv10 : IntKind.i64.wrap (40 + x10) = 40 + x10 := IntWalk.i64_in _ b_34
       clear hd10
       refine hK.out _ _ (HC.out _ (drz (E3.trans (E6.trans (E4.trans (E7.trans (E13.trans (E8.trans E10)))))))) (fun hHeld => ?_)
       clear hK K
       try simp only [layz]
       refine tkz2 11 12 ?_
       try simp only [layz]
       refine rz1 14 (fun K hK => ?_)
       have hG : Blk w10 (w7.heap.size) 46 #[.slice none 0 0, .slice none 0 0, .slice none 0 0, .int .i64 0, .int .i64 0] := Dr.blk (E8.trans E10) hG13 b_34
       obtain ⟨k0, k1, k2, k3, k4, j0, j1, j2, j3, j4⟩ := blk5 hG
       have zG := hG.lt
       go_simp
       refine abs_world (fun w14 hw14 => ?_)
       obtain ⟨hG14, hK14, hs14, hc14, F14⟩ := stored5 (v0 := .slice An (List.length m) cn) (v1 := .slice A4 (List.length b) c4) (v2 := .slice A8 (List.length kn) c8) (v3 := .int .i64 (40 + x10)) (v4 := .int .i64 0) hG b_25 (B := B) b_34 hc10
       have F14 := F14 WT b_34 (E3.trans (E6.trans (E4.trans (E7.trans (E13.trans (E8.trans E10))))))
       have hM14 := HM.out.dr F14 b_34
       have hb14 := (HB.out.dr (E7.trans (E13.trans (E8.trans E10))) b_34).keep hs14 (fun q h1 h2 => hK14 q b_34)
       have hk14 := (HKN.out.dr E10 b_34).keep hs14 (fun q h1 h2 => hK14 q b_34)
       clear hw14 hK14 hG
       refine hK.out _ _ (HC.out _ F14) (fun hHeld => ?_)
       clear hK K
       try simp only [layz]
       refine wpAnyH_done b_31 ?_ _
       refine NoPanic.normal ?_
       have mm : w14.heap.size ≤ w14.heap.size := Nat.le_refl _
       have QY : RdI tData (w.heap.size + 1) w14.heap.size w14 [.slice An (List.length m) cn, .slice A4 (List.length b) c4, .slice A8 (List.length kn) c8, .int .i64 (40 + x10), .int .i64 0] (m, b, kn, 40 + x10, 0) := RdI.data (x := (m, b, kn, 40 + x10, 0)) (hM14.mono (Nat.le_refl _) hM14.1 mm) (hb14.mono b_34 hb14.1 mm) (hk14.mono b_34 hk14.1 mm) (show -9223372036854775808 ≤ 40 + x10 ∧ 40 + x10 ≤ 9223372036854775807 by omega) (show -9223372036854775808 ≤ (0 : Int) ∧ (0 : Int) ≤ 9223372036854775807 by decide)
       go_wp2_with fail
       go_meet
       exact ⟨w7.heap.size, An, cn, A4, c4, A8, c8, (m, b, kn, 40 + x10, 0), rfl, hG14, QY, ⟨okAny.of _ hV2, (show List.length b ≤ 61 by omega), HS3.out⟩, hc14, F14, by omega, by omega⟩
     ·go_simp
      refine abs_world (fun w13 hw13 => ?_)
      obtain ⟨E13, hc13, z13⟩ := nz hw13 hc4
      have hG13 : Blk w13 w4.heap.size 46 #[.slice none 0 0, .slice none 0 0, .slice none 0 0, .int .i64 0, .int .i64 0] := by rw [hw13]; exact b_21
      clear hw13
      refine hK.out _ _ (HC.out _ (drz (E3.trans (E6.trans (E4.trans E13))))) (fun hHeld => ?_)
      clear hK K
      try simp only [layz]
      refine rz1 7 (fun K hK => ?_)
      go_simp
      go_at_call 140
      refine Calls.mono (C_spec_l1Str _ B _ [[47, 107, 101, 121, 47, 97], [47, 107, 101, 121, 47, 98], [47, 97, 47, 107, 101, 121]] (cuz hc13) ((HL6.out.dr (B := B) (drz (E4.trans E13)) b_34).hide b_34) b_33 b_33) ?_
      rintro e w7 ⟨hd7, hc7, s, hs, rfl⟩
      obtain ⟨E7, z7⟩ := ez w13 hd7
      have hs3 := key3 hs
      have HS3 := Lib.hid hs3.1
      have hsl := hs3.2
      clear hs hs3
      clear hd7
      refine hK.out _ _ (HC.out _ (drz (E3.trans (E6.trans (E4.trans (E13.trans E7)))))) (fun hHeld => ?_)
      clear hK K
      try simp only [layz]
      refine rz1 8 (fun K hK => ?_)
      go_simp
      go_at_call 138
      refine Calls.mono (C_spec_l4Of _ s b_34) ?_
      rintro e w8 ⟨cs8, fp8, rfl, how8, hfr8, hb8⟩
      obtain ⟨E8, z8⟩ := ez w7 (Dr.of hb8 B)
      have hc8 : CurT w8 B := Cur.below (cuz hc7) hb8
      obtain ⟨A8, c8, rfl⟩ := Ty.ow_slv how8
      obtain ⟨lk, hlk⟩ : ∃ lk, lk = w7.heap.size := ⟨_, rfl⟩
      have HKN := Lib.hid (show RdI (.sl .str) lk w8.heap.size w8 _ (pnS s).1 from oz how8 hfr8)
      clear how8 hfr8
      generalize (pnS s).1 = kn at HKN HS3 ⊢
      clear hb8
      refine hK.out _ _ (HC.out _ (drz (E3.trans (E6.trans (E4.trans (E13.trans (E7.trans E8))))))) (fun hHeld => ?_)
      clear hK K
      try simp only [layz]
      refine rz1 10 (fun K hK => ?_)
      go_simp
      go_at_call 69
      refine Calls.mono (C_spec_l1Below _ B 60 (cuz hc8) b_33 b_33) ?_
      rintro e w10 ⟨hd10, hc10, x10, rfl, hx10, hy10⟩
      obtain ⟨E10, z10⟩ := ez w8 hd10
      have hv10 : IntKind.i64.wrap (40 + x10) = 40 + x10 := IntWalk.i64_in _ b_34
      clear hd10
      refine hK.out _ _ (HC.out _ (drz (E3.trans (E6.trans (E4.trans (E13.trans (E7.trans (E8.trans E10)))))))) (fun hHeld => ?_)
      clear hK K
      try simp only [layz]
      refine tkz2 11 12 ?_
      try simp only [layz]
      refine rz1 14 (fun K hK => ?_)
      have hG : Blk w10 (w4.heap.size) 46 #[.slice none 0 0, .slice none 0 0, .slice none 0 0, .int .i64 0, .int .i64 0] := Dr.blk (E7.trans (E8.trans E10)) hG13 b_34
      obtain ⟨k0, k1, k2, k3, k4, j0, j1, j2, j3, j4⟩ := blk5 hG
      have zG := hG.lt
      go_simp
      refine abs_world (fun w14 hw14 => ?_)
      obtain ⟨hG14, hK14, hs14, hc14, F14⟩ := stored5 (v0 := .slice An (List.length m) cn) (v1 := .slice A4 (List.length b) c4) (v2 := .slice A8 (List.length kn) c8) (v3 := .int .i64 (40 + x10)) (v4 := .int .i64 0) hG b_25 (B := B) b_34 hc10
      have F14 := F14 WT b_34 (E3.trans (E6.trans (E4.trans (E13.trans (E7.trans (E8.trans E10))))))
      have hM14 := HM.out.dr F14 b_34
      have hb14 := (HB.out.dr (E13.trans (E7.trans (E8.trans E10))) b_34).keep hs14 (fun q h1 h2 => hK14 q b_34)
      have hk14 := (HKN.out.dr E10 b_34).keep hs14 (fun q h1 h2 => hK14 q b_34)
      clear hw14 hK14 hG
      refine hK.out _ _ (HC.out _ F14) (fun hHeld => ?_)
      clear hK K
      try simp only [layz]
      refine wpAnyH_done b_31 ?_ _
      refine NoPanic.normal ?_
      have mm : w14.heap.size ≤ w14.heap.size := Nat.le_refl _
      have QY : RdI tData (w.heap.size + 1) w14.heap.size w14 [.slice An (List.length m) cn, .slice A4 (List.length b) c4, .slice A8 (List.length kn) c8, .int .i64 (40 + x10), .int .i64 0] (m, b, kn, 40 + x10, 0) := RdI.data (x := (m, b, kn, 40 + x10, 0)) (hM14.mono (Nat.le_refl _) hM14.1 mm) (hb14.mono b_34 hb14.1 mm) (hk14.mono b_34 hk14.1 mm) (show -9223372036854775808 ≤ 40 + x10 ∧ 40 + x10 ≤ 9223372036854775807 by omega) (show -9223372036854775808 ≤ (0 : Int) ∧ (0 : Int) ≤ 9223372036854775807 by decide)
      go_wp2_with fail
      go_meet
      exact ⟨w4.heap.size, An, cn, A4, c4, A8, c8, (m, b, kn, 40 + x10, 0), rfl, hG14, QY, ⟨okAny.of _ hV2, (show List.length b ≤ 61 by omega), HS3.out⟩, hc14, F14, by omega, by omega⟩
    ·go_simp
     refine abs_world (fun w13 hw13 => ?_)
     obtain ⟨E13, hc13, z13⟩ := nz hw13 hc6
     have hG13 : Blk w13 w6.heap.size 46 #[.slice none 0 0, .slice none 0 0, .slice none 0 0, .int .i64 0, .int .i64 0] := by rw [hw13]; exact b_21
     clear hw13
     refine hK.out _ _ (HC.out _ (drz (E3.trans (E6.trans E13)))) (fun hHeld => ?_)
     clear hK K
     try simp only [layz]
     refine rz1 4 (fun K hK => ?_)
     go_simp
     go_at_call 149
     refine Calls.mono (C_spec_l1Bytes _ B ka (cuz hc13) b_34) ?_
     rintro e w4 ⟨hd4, hc4, A4, b, c4, fp4, rfl, how4, hfr4, hlb⟩
     obtain ⟨E4, z4⟩ := ez w13 hd4
     subst hlb
     obtain ⟨lb, hlb4⟩ : ∃ lb, lb = w13.heap.size := ⟨_, rfl⟩
     have HB := Lib.hid (show RdI (.sl .byte) lb w4.heap.size w4 _ b from oz how4 hfr4)
     clear how4 hfr4
     clear hd4
     refine hK.out _ _ (HC.out _ (drz (E3.trans (E6.trans (E13.trans E4))))) (fun hHeld => ?_)
     clear hK K
     try simp only [layz]
     refine rz1 7 (fun K hK => ?_)
     go_simp
     go_at_call 140
     refine Calls.mono (C_spec_l1Str _ B _ [[47, 107, 101, 121, 47, 97], [47, 107, 101, 121, 47, 98], [47, 97, 47, 107, 101, 121]] (cuz hc4) ((HL6.out.dr (B := B) (drz (E13.trans E4)) b_34).hide b_34) b_33 b_33) ?_
     rintro e w7 ⟨hd7, hc7, s, hs, rfl⟩
     obtain ⟨E7, z7⟩ := ez w4 hd7
     have hs3 := key3 hs
     have HS3 := Lib.hid hs3.1
     have hsl := hs3.2
     clear hs hs3
     clear hd7
     refine hK.out _ _ (HC.out _ (drz (E3.trans (E6.trans (E13.trans (E4.trans E7)))))) (fun hHeld => ?_)
     clear hK K
     try simp only [layz]
     refine rz1 8 (fun K hK => ?_)
     go_simp
     go_at_call 138
     refine Calls.mono (C_spec_l4Of _ s b_34) ?_
     rintro e w8 ⟨cs8, fp8, rfl, how8, hfr8, hb8⟩
     obtain ⟨E8, z8⟩ := ez w7 (Dr.of hb8 B)
     have hc8 : CurT w8 B := Cur.below (cuz hc7) hb8
     obtain ⟨A8, c8, rfl⟩ := Ty.ow_slv how8
     obtain ⟨lk, hlk⟩ : ∃ lk, lk = w7.heap.size := ⟨_, rfl⟩
     have HKN := Lib.hid (show RdI (.sl .str) lk w8.heap.size w8 _ (pnS s).1 from oz how8 hfr8)
     clear how8 hfr8
     generalize (pnS s).1 = kn at HKN HS3 ⊢
     clear hb8
     refine hK.out _ _ (HC.out _ (drz (E3.trans (E6.trans (E13.trans (E4.trans (E7.trans E8))))))) (fun hHeld => ?_)
     clear hK K
     try simp only [layz]
     refine rz1 10 (fun K hK => ?_)
     go_simp
     go_at_call 69
     refine Calls.mono (C_spec_l1Below _ B 60 (cuz hc8) b_33 b_33) ?_
     rintro e w10 ⟨hd10, hc10, x10, rfl, hx10, hy10⟩
     obtain ⟨E10, z10⟩ := ez w8 hd10
     have hv10 : IntKind.i64.wrap (40 + x10) = 40 + x10 := IntWalk.i64_in _ b_34
     clear hd10
     refine hK.out _ _ (HC.out _ (drz (E3.trans (E6.trans (E13.trans (E4.trans (E7.trans (E8.trans E10)))))))) (fun hHeld => ?_)
     clear hK K
     try simp only [layz]
     refine tkz2 11 12 ?_
     try simp only [layz]
     refine rz1 14 (fun K hK => ?_)
     have hG : Blk w10 (w6.heap.size) 46 #[.slice none 0 0, .slice none 0 0, .slice none 0 0, .int .i64 0, .int .i64 0] := Dr.blk (E4.trans (E7.trans (E8.trans E10))) hG13 b_34
     obtain ⟨k0, k1, k2, k3, k4, j0, j1, j2, j3, j4⟩ := blk5 hG
     have zG := hG.lt
     go_simp
     refine abs_world (fun w14 hw14 => ?_)
     obtain ⟨hG14, hK14, hs14, hc14, F14⟩ := stored5 (v0 := .slice An (List.length m) cn) (v1 := .slice A4 (List.length b) c4) (v2 := .slice A8 (List.length kn) c8) (v3 := .int .i64 (40 + x10)) (v4 := .int .i64 0) hG b_25 (B := B) b_34 hc10
     have F14 := F14 WT b_34 (E3.trans (E6.trans (E13.trans (E4.trans (E7.trans (E8.trans E10))))))
     have hM14 := HM.out.dr F14 b_34
     have hb14 := (HB.out.dr (E7.trans (E8.trans E10)) b_34).keep hs14 (fun q h1 h2 => hK14 q b_34)
     have hk14 := (HKN.out.dr E10 b_34).keep hs14 (fun q h1 h2 => hK14 q b_34)
     clear hw14 hK14 hG
     refine hK.out _ _ (HC.out _ F14) (fun hHeld => ?_)
     clear hK K
     try simp only [layz]
     refine wpAnyH_done b_31 ?_ _
     refine NoPanic.normal ?_
     have mm : w14.heap.size ≤ w14.heap.size := Nat.le_refl _
     have QY : RdI tData (w.heap.size + 1) w14.heap.size w14 [.slice An (List.length m) cn, .slice A4 (List.length b) c4, .slice A8 (List.length kn) c8, .int .i64 (40 + x10), .int .i64 0] (m, b, kn, 40 + x10, 0) := RdI.data (x := (m, b, kn, 40 + x10, 0)) (hM14.mono (Nat.le_refl _) hM14.1 mm) (hb14.mono b_34 hb14.1 mm) (hk14.mono b_34 hk14.1 mm) (show -9223372036854775808 ≤ 40 + x10 ∧ 40 + x10 ≤ 9223372036854775807 by omega) (show -9223372036854775808 ≤ (0 : Int) ∧ (0 : Int) ≤ 9223372036854775807 by decide)
     go_wp2_with fail
     go_meet
     exact ⟨w6.heap.size, An, cn, A4, c4, A8, c8, (m, b, kn, 40 + x10, 0), rfl, hG14, QY, ⟨okAny.of _ hV2, (show List.length b ≤ 61 by omega), HS3.out⟩, hc14, F14, by omega, by omega⟩
   ·go_simp
    refine abs_world (fun w13 hw13 => ?_)
    obtain ⟨E13, hc13, z13⟩ := nz hw13 hc3
    have hG13 : Blk w13 w3.heap.size 46 #[.slice none 0 0, .slice none 0 0, .slice none 0 0, .int .i64 0, .int .i64 0] := by rw [hw13]; exact b_21
    clear hw13
    refine hK.out _ _ (HC.out _ (drz (E3.trans E13))) (fun hHeld => ?_)
    clear hK K
    try simp only [layz]
    refine rz2 4 6 (fun K hK => ?_) (fun K hK => ?_)
    ·go_simp
     go_at_call 149
     refine Calls.mono (C_spec_l1Bytes _ B ka (cuz hc13) b_34) ?_
     rintro e w4 ⟨hd4, hc4, A4, b, c4, fp4, rfl, how4, hfr4, hlb⟩
     obtain ⟨E4, z4⟩ := ez w13 hd4
     subst hlb
     obtain ⟨lb, hlb4⟩ : ∃ lb, lb = w13.heap.size := ⟨_, rfl⟩
     have HB := Lib.hid (show RdI (.sl .byte) lb w4.heap.size w4 _ b from oz how4 hfr4)
     clear how4 hfr4
     clear hd4
     refine hK.out _ _ (HC.out _ (drz (E3.trans (E13.trans E4)))) (fun hHeld => ?_)
     clear hK K
     try simp only [layz]
     refine rz1 6 (fun K hK => ?_)
     go_simp
     refine abs_world (fun w6 hw6 => ?_)
     obtain ⟨E6, hc6, z6⟩ := nz hw6 hc4
     have HL6 := Lib.hid (show RdI (.sl .str) w4.heap.size (w4.heap.size + 1) w6 [.slice (some ⟨w4.heap.size, 0, none⟩) 3 3] [[47, 107, 101, 121, 47, 97], [47, 107, 101, 121, 47, 98], [47, 97, 47, 107, 101, 121]] by rw [hw6]; exact b_4)
     clear hw6
     refine hK.out _ _ (HC.out _ (drz (E3.trans (E13.trans (E4.trans E6))))) (fun hHeld => ?_)
     clear hK K
     try simp only [layz]
     refine rz1 7 (fun K hK => ?_)
     go_simp
     go_at_call 140
     refine Calls.mono (C_spec_l1Str _ B _ [[47, 107, 101, 121, 47, 97], [47, 107, 101, 121, 47, 98], [47, 97, 47, 107, 101, 121]] (cuz hc6) ((HL6.out.dr (B := B) (drz (Dr.refl B w6)) b_34).hide b_34) b_33 b_33) ?_
     rintro e w7 ⟨hd7, hc7, s, hs, rfl⟩
     obtain ⟨E7, z7⟩ := ez w6 hd7
     have hs3 := key3 hs
     have HS3 := Lib.hid hs3.1
     have hsl := hs3.2
     clear hs hs3
     clear hd7
     refine hK.out _ _ (HC.out _ (drz (E3.trans (E13.trans (E4.trans (E6.trans E7)))))) (fun hHeld => ?_)
     clear hK K
     try simp only [layz]
     refine rz1 8 (fun K hK => ?_)
     go_simp
     go_at_call 138
     refine Calls.mono (C_spec_l4Of _ s b_34) ?_
     rintro e w8 ⟨cs8, fp8, rfl, how8, hfr8, hb8⟩
     obtain ⟨E8, z8⟩ := ez w7 (Dr.of hb8 B)
     have hc8 : CurT w8 B := Cur.below (cuz hc7) hb8
     obtain ⟨A8, c8, rfl⟩ := Ty.ow_slv how8
     obtain ⟨lk, hlk⟩ : ∃ lk, lk = w7.heap.size := ⟨_, rfl⟩
     have HKN := Lib.hid (show RdI (.sl .str) lk w8.heap.size w8 _ (pnS s).1 from oz how8 hfr8)
     clear how8 hfr8
     generalize (pnS s).1 = kn at HKN HS3 ⊢
     clear hb8
     refine hK.out _ _ (HC.out _ (drz (E3.trans (E13.trans (E4.trans (E6.trans (E7.trans E8))))))) (fun hHeld => ?_)
     clear hK K
     try simp only [layz]
     refine rz1 10 (fun K hK => ?_)
     go_simp
     go_at_call 69
     refine Calls.mono (C_spec_l1Below _ B 60 (cuz hc8) b_33 b_33) ?_
     rintro e w10 ⟨hd10, hc10, x10, rfl, hx10, hy10⟩
     obtain ⟨E10, z10⟩ := ez w8 hd10
     have hv10 : IntKind.i64.wrap (40 + x10) = 40 + x10 := IntWalk.i64_in _ b_34
     clear hd10
     refine hK.out _ _ (HC.out _ (drz (E3.trans (E13.trans (E4.trans (E6.trans (E7.trans (E8.trans E10)))))))) (fun hHeld => ?_)
     clear hK K
     try simp only [layz]
     refine tkz2 11 12 ?_
     try simp only [layz]
     refine rz1 14 (fun K hK => ?_)
     have hG : Blk w10 (w3.heap.size) 46 #[.slice none 0 0, .slice none 0 0, .slice none 0 0, .int .i64 0, .int .i64 0] := Dr.blk (E4.trans (E6.trans (E7.trans (E8.trans E10)))) hG13 b_34
     obtain ⟨k0, k1, k2, k3, k4, j0, j1, j2, j3, j4⟩ := blk5 hG
     have zG := hG.lt
     go_simp
     refine abs_world (fun w14 hw14 => ?_)
     obtain ⟨hG14, hK14, hs14, hc14, F14⟩ := stored5 (v0 := .slice An (List.length m) cn) (v1 := .slice A4 (List.length b) c4) (v2 := .slice A8 (List.length kn) c8) (v3 := .int .i64 (40 + x10)) (v4 := .int .i64 0) hG b_25 (B := B) b_34 hc10
     have F14 := F14 WT b_34 (E3.trans (E13.trans (E4.trans (E6.trans (E7.trans (E8.trans E10))))))
     have hM14 := HM.out.dr F14 b_34
     have hb14 := (HB.out.dr (E6.trans (E7.trans (E8.trans E10))) b_34).keep hs14 (fun q h1 h2 => hK14 q b_34)
     have hk14 := (HKN.out.dr E10 b_34).keep hs14 (fun q h1 h2 => hK14 q b_34)
     clear hw14 hK14 hG
     refine hK.out _ _ (HC.out _ F14) (fun hHeld => ?_)
     clear hK K
     try simp only [layz]
     refine wpAnyH_done b_31 ?_ _
     refine NoPanic.normal ?_
     have mm : w14.heap.size ≤ w14.heap.size := Nat.le_refl _
     have QY : RdI tData (w.heap.size + 1) w14.heap.size w14 [.slice An (List.length m) cn, .slice A4 (List.length b) c4, .slice A8 (List.length kn) c8, .int .i64 (40 + x10), .int .i64 0] (m, b, kn, 40 + x10, 0) := RdI.data (x := (m, b, kn, 40 + x10, 0)) (hM14.mono (Nat.le_refl _) hM14.1 mm) (hb14.mono b_34 hb14.1 mm) (hk14.mono b_34 hk14.1 mm) (show -9223372036854775808 ≤ 40 + x10 ∧ 40 + x10 ≤ 9223372036854775807 by omega) (show -9223372036854775808 ≤ (0 : Int) ∧ (0 : Int) ≤ 9223372036854775807 by decide)
     go_wp2_with fail
     go_meet
     exact ⟨w3.heap.size, An, cn, A4, c4, A8, c8, (m, b, kn, 40 + x10, 0), rfl, hG14, QY, ⟨okAny.of _ hV2, (show List.length b ≤ 61 by omega), HS3.out⟩, hc14, F14, by omega, by omega⟩
    ·go_simp
     refine abs_world (fun w6 hw6 => ?_)
     obtain ⟨E6, hc6, z6⟩ := nz hw6 hc13
     have HL6 := Lib.hid (show RdI (.sl .str) w13.heap.size (w13.heap.size + 1) w6 [.slice (some ⟨w13.heap.size, 0, none⟩) 3 3] [[47, 107, 101, 121, 47, 97], [47, 107, 101, 121, 47, 98], [47, 97, 47, 107, 101, 121]] by rw [hw6]; exact b_4)
     clear hw6
     refine hK.out _ _ (HC.out _ (drz (E3.trans (E13.trans E6)))) (fun hHeld => ?_)
     clear hK K
     try simp only [layz]
     refine rz1 4 (fun K hK => ?_)
     go_simp
     go_at_call 149
     refine Calls.mono (C_spec_l1Bytes _ B ka (cuz hc6) b_34) ?_
     rintro e w4 ⟨hd4, hc4, A4, b, c4, fp4, rfl, how4, hfr4, hlb⟩
     obtain ⟨E4, z4⟩ := ez w6 hd4
     subst hlb
     obtain ⟨lb, hlb4⟩ : ∃ lb, lb = w6.heap.size := ⟨_, rfl⟩
     have HB := Lib.hid (show RdI (.sl .byte) lb w4.heap.size w4 _ b from oz how4 hfr4)
     clear how4 hfr4
     clear hd4
     refine hK.out _ _ (HC.out _ (drz (E3.trans (E13.trans (E6.trans E4))))) (fun hHeld => ?_)
     clear hK K
     try simp only [layz]
     refine rz1 7 (fun K hK => ?_)
     go_simp
     go_at_call 140
     refine Calls.mono (C_spec_l1Str _ B _ [[47, 107, 101, 121, 47, 97], [47, 107, 101, 121, 47, 98], [47, 97, 47, 107, 101, 121]] (cuz hc4) ((HL6.out.dr (B := B) (drz E4) b_34).hide b_34) b_33 b_33) ?_
     rintro e w7 ⟨hd7, hc7, s, hs, rfl⟩
     obtain ⟨E7, z7⟩ := ez w4 hd7
     have hs3 := key3 hs
     have HS3 := Lib.hid hs3.1
     have hsl := hs3.2
     clear hs hs3
     clear hd7
     refine hK.out _ _ (HC.out _ (drz (E3.trans (E13.trans (E6.trans (E4.trans E7)))))) (fun hHeld => ?_)
     clear hK K
     try simp only [layz]
     refine rz1 8 (fun K hK => ?_)
     go_simp
     go_at_call 138
     refine Calls.mono (C_spec_l4Of _ s b_34) ?_
     rintro e w8 ⟨cs8, fp8, rfl, how8, hfr8, hb8⟩
     obtain ⟨E8, z8⟩ := ez w7 (Dr.of hb8 B)
     have hc8 : CurT w8 B := Cur.below (cuz hc7) hb8
     obtain ⟨A8, c8, rfl⟩ := Ty.ow_slv how8
     obtain ⟨lk, hlk⟩ : ∃ lk, lk = w7.heap.size := ⟨_, rfl⟩
     have HKN := Lib.hid (show RdI (.sl .str) lk w8.heap.size w8 _ (pnS s).1 from oz how8 hfr8)
     clear how8 hfr8
     generalize (pnS s).1 = kn at HKN HS3 ⊢
     clear hb8
     refine hK.out _ _ (HC.out _ (drz (E3.trans (E13.trans (E6.trans (E4.trans (E7.trans E8))))))) (fun hHeld => ?_)
     clear hK K
     try simp only [layz]
     refine rz1 10 (fun K hK => ?_)
     go_simp
     go_at_call 69
     refine Calls.mono (C_spec_l1Below _ B 60 (cuz hc8) b_33 b_33) ?_
     rintro e w10 ⟨hd10, hc10, x10, rfl, hx10, hy10⟩
     obtain ⟨E10, z10⟩ := ez w8 hd10
     have hv10 : IntKind.i64.wrap (40 + x10) = 40 + x10 := IntWalk.i64_in _ b_34
     clear hd10
     refine hK.out _ _ (HC.out _ (drz (E3.trans (E13.trans (E6.trans (E4.trans (E7.trans (E8.trans E10)))))))) (fun hHeld => ?_)
     clear hK K
     try simp only [layz]
     refine tkz2 11 12 ?_
     try simp only [layz]
     refine rz1 14 (fun K hK => ?_)
     have hG : Blk w10 (w3.heap.size) 46 #[.slice none 0 0, .slice none 0 0, .slice none 0 0, .int .i64 0, .int .i64 0] := Dr.blk (E6.trans (E4.trans (E7.trans (E8.trans E10)))) hG13 b_34
     obtain ⟨k0, k1, k2, k3, k4, j0, j1, j2, j3, j4⟩ := blk5 hG
     have zG := hG.lt
     go_simp
     refine abs_world (fun w14 hw14 => ?_)
     obtain ⟨hG14, hK14, hs14, hc14, F14⟩ := stored5 (v0 := .slice An (List.length m) cn) (v1 := .slice A4 (List.length b) c4) (v2 := .slice A8 (List.length kn) c8) (v3 := .int .i64 (40 + x10)) (v4 := .int .i64 0) hG b_25 (B := B) b_34 hc10
     have F14 := F14 WT b_34 (E3.trans (E13.trans (E6.trans (E4.trans (E7.trans (E8.trans E10))))))
     have hM14 := HM.out.dr F14 b_34
     have hb14 := (HB.out.dr (E7.trans (E8.trans E10)) b_34).keep hs14 (fun q h1 h2 => hK14 q b_34)
     have hk14 := (HKN.out.dr E10 b_34).keep hs14 (fun q h1 h2 => hK14 q b_34)
     clear hw14 hK14 hG
     refine hK.out _ _ (HC.out _ F14) (fun hHeld => ?_)
     clear hK K
     try simp only [layz]
     refine wpAnyH_done b_31 ?_ _
     refine NoPanic.normal ?_
     have mm : w14.heap.size ≤ w14.heap.size := Nat.le_refl _
     have QY : RdI tData (w.heap.size + 1) w14.heap.size w14 [.slice An (List.length m) cn, .slice A4 (List.length b) c4, .slice A8 (List.length kn) c8, .int .i64 (40 + x10), .int .i64 0] (m, b, kn, 40 + x10, 0) := RdI.data (x := (m, b, kn, 40 + x10, 0)) (hM14.mono (Nat.le_refl _) hM14.1 mm) (hb14.mono b_34 hb14.1 mm) (hk14.mono b_34 hk14.1 mm) (show -9223372036854775808 ≤ 40 + x10 ∧ 40 + x10 ≤ 9223372036854775807 by omega) (show -9223372036854775808 ≤ (0 : Int) ∧ (0 : Int) ≤ 9223372036854775807 by decide)
     go_wp2_with fail
     go_meet
     exact ⟨w3.heap.size, An, cn, A4, c4, A8, c8, (m, b, kn, 40 + x10, 0), rfl, hG14, QY, ⟨okAny.of _ hV2, (show List.length b ≤ 61 by omega), HS3.out⟩, hc14, F14, by omega, by omega⟩
  ·go_simp
   refine abs_world (fun w6 hw6 => ?_)
   obtain ⟨E6, hc6, z6⟩ := nz hw6 CT
   have HL6 := Lib.hid (show RdI (.sl .str) WT.heap.size (WT.heap.size + 1) w6 [.slice (some ⟨WT.heap.size, 0, none⟩) 3 3] [[47, 107, 101, 121, 47, 97], [47, 107, 101, 121, 47, 98], [47, 97, 47, 107, 101, 121]] by rw [hw6]; exact b_4)
   clear hw6
   refine hK.out _ _ (HC.out _ (drz E6)) (fun hHeld => ?_)
   clear hK K
   try simp only [layz]
   refine rz2 3 13 (fun K hK => ?_) (fun K hK => ?_)
   ·go_simp
    go_at_call 69
    refine Calls.mono (C_spec_l1Below _ B 5 (cuz hc6) b_33 b_33) ?_
    rintro e w3 ⟨hd3, hc3, x3, rfl, hx3, hy3⟩
    obtain ⟨E3, z3⟩ := ez w6 hd3
    obtain ⟨ka, rfl⟩ : ∃ k : Nat, x3 = k := ⟨x3.toNat, by omega⟩
    clear hd3
    refine hK.out _ _ (HC.out _ (drz (E6.trans E3))) (fun hHeld => ?_)
    clear hK K
    try simp only [layz]
    refine rz2 4 13 (fun K hK => ?_) (fun K hK => ?_)
    ·go_simp
     go_at_call 149
     refine Calls.mono (C_spec_l1Bytes _ B ka (cuz hc3) b_34) ?_
     rintro e w4 ⟨hd4, hc4, A4, b, c4, fp4, rfl, how4, hfr4, hlb⟩
     obtain ⟨E4, z4⟩ := ez w3 hd4
     subst hlb
     obtain ⟨lb, hlb4⟩ : ∃ lb, lb = w3.heap.size := ⟨_, rfl⟩
     have HB := Lib.hid (show RdI (.sl .byte) lb w4.heap.size w4 _ b from oz how4 hfr4)
     clear how4 hfr4
     clear hd4
     refine hK.out _ _ (HC.out _ (drz (E6.trans (E3.trans E4)))) (fun hHeld => ?_)
     clear hK K
     try simp only [layz]
     refine rz2 7 13 (fun K hK => ?_) (fun K hK => ?_)
     ·go_simp
      go_at_call 140
      refine Calls.mono (C_spec_l1Str _ B _ [[47, 107, 101, 121, 47, 97], [47, 107, 101, 121, 47, 98], [47, 97, 47, 107, 101, 121]] (cuz hc4) ((HL6.out.dr (B := B) (drz (E3.trans E4)) b_34).hide b_34) b_33 b_33) ?_
      rintro e w7 ⟨hd7, hc7, s, hs, rfl⟩
      obtain ⟨E7, z7⟩ := ez w4 hd7
      have hs3 := key3 hs
      have HS3 := Lib.hid hs3.1
      have hsl := hs3.2
      clear hs hs3
      clear hd7
      refine hK.out _ _ (HC.out _ (drz (E6.trans (E3.trans (E4.trans E7))))) (fun hHeld => ?_)
      clear hK K
      try simp only [layz]
      refine rz2 8 13 (fun K hK => ?_) (fun K hK => ?_)
      ·go_simp
       go_at_call 138
       refine Calls.mono (C_spec_l4Of _ s b_34) ?_
       rintro e w8 ⟨cs8, fp8, rfl, how8, hfr8, hb8⟩
       obtain ⟨E8, z8⟩ := ez w7 (Dr.of hb8 B)
       have hc8 : CurT w8 B := Cur.below (cuz hc7) hb8
       obtain ⟨A8, c8, rfl⟩ := Ty.ow_slv how8
       obtain ⟨lk, hlk⟩ : ∃ lk, lk = w7.heap.size := ⟨_, rfl⟩
       have HKN := Lib.hid (show RdI (.sl .str) lk w8.heap.size w8 _ (pnS s).1 from oz how8 hfr8)
       clear how8 hfr8
       generalize (pnS s).1 = kn at HKN HS3 ⊢
       clear hb8
       refine hK.out _ _ (HC.out _ (drz (E6.trans (E3.trans (E4.trans (E7.trans E8)))))) (fun hHeld => ?_)
       clear hK K
       try simp only [layz]
       refine rz2 10 13 (fun K hK => ?_) (fun K hK => ?_)
       ·go_simp
        go_at_call 69
        refine Calls.mono (C_spec_l1Below _ B 60 (cuz hc8) b_33 b_33) ?_
        rintro e w10 ⟨hd10, hc10, x10, rfl, hx10, hy10⟩
        obtain ⟨E10, z10⟩ := ez w8 hd10
        have hv10 : IntKind.i64.wrap (40 + x10) = 40 + x10 := IntWalk.i64_in _ b_34
        clear hd10
        refine hK.out _ _ (HC.out _ (drz (E6.trans (E3.trans (E4.trans (E7.trans (E8.trans E10))))))) (fun hHeld => ?_)
        clear hK K
        try simp only [layz]
        refine tkz2 11 12 ?_
        try simp only [layz]
        refine rz1 13 (fun K hK => ?_)
        go_simp
        refine abs_world (fun w13 hw13 => ?_)
        obtain ⟨E13, hc13, z13⟩ := nz hw13 hc10
        have hG13 : Blk w13 w10.heap.size 46 #[.slice none 0 0, .slice none 0 0, .slice none 0 0, .int .i64 0, .int .i64 0] := by rw [hw13]; exact b_21
        clear hw13
        refine hK.out _ _ (HC.out _ (drz (E6.trans (E3.trans (E4.trans (E7.trans (E8.trans (E10.trans E13)))))))) (fun hHeld => ?_)
        clear hK K
        try simp only [layz]
        refine rz1 14 (fun K hK => ?_)
        have hG : Blk w13 (w10.heap.size) 46 #[.slice none 0 0, .slice none 0 0, .slice none 0 0, .int .i64 0, .int .i64 0] := Dr.blk (Dr.refl B w13) hG13 b_34
        obtain ⟨k0, k1, k2, k3, k4, j0, j1, j2, j3, j4⟩ := blk5 hG
        have zG := hG.lt
        go_simp
        refine abs_world (fun w14 hw14 => ?_)
        obtain ⟨hG14, hK14, hs14, hc14, F14⟩ := stored5 (v0 := .slice An (List.length m) cn) (v1 := .slice A4 (List.length b) c4) (v2 := .slice A8 (List.length kn) c8) (v3 := .int .i64 (40 + x10)) (v4 := .int .i64 0) hG b_25 (B := B) b_34 hc13
        have F14 := F14 WT b_34 (E6.trans (E3.trans (E4.trans (E7.trans (E8.trans (E10.trans E13))))))
        have hM14 := HM.out.dr F14 b_34
        have hb14 := (HB.out.dr (E7.trans (E8.trans (E10.trans E13))) b_34).keep hs14 (fun q h1 h2 => hK14 q b_34)
        have hk14 := (HKN.out.dr (E10.trans E13) b_34).keep hs14 (fun q h1 h2 => hK14 q b_34)
        clear hw14 hK14 hG
        refine hK.out _ _ (HC.out _ F14) (fun hHeld => ?_)
        clear hK K
        try simp only [layz]
        refine wpAnyH_done b_31 ?_ _
        refine NoPanic.normal ?_
        have mm : w14.heap.size ≤ w14.heap.size := Nat.le_refl _
        have QY : RdI tData (w.heap.size + 1) w14.heap.size w14 [.slice An (List.length m) cn, .slice A4 (List.length b) c4, .slice A8 (List.length kn) c8, .int .i64 (40 + x10), .int .i64 0] (m, b, kn, 40 + x10, 0) := RdI.data (x := (m, b, kn, 40 + x10, 0)) (hM14.mono (Nat.le_refl _) hM14.1 mm) (hb14.mono b_34 hb14.1 mm) (hk14.mono b_34 hk14.1 mm) (show -9223372036854775808 ≤ 40 + x10 ∧ 40 + x10 ≤ 9223372036854775807 by omega) (show -9223372036854775808 ≤ (0 : Int) ∧ (0 : Int) ≤ 9223372036854775807 by decide)
        go_wp2_with fail
        go_meet
        exact ⟨w10.heap.size, An, cn, A4, c4, A8, c8, (m, b, kn, 40 + x10, 0), rfl, hG14, QY, ⟨okAny.of _ hV2, (show List.length b ≤ 61 by omega), HS3.out⟩, hc14, F14, by omega, by omega⟩
       ·go_simp
        refine abs_world (fun w13 hw13 => ?_)
        obtain ⟨E13, hc13, z13⟩ := nz hw13 hc8
        have hG13 : Blk w13 w8.heap.size 46 #[.slice none 0 0, .slice none 0 0, .slice none 0 0, .int .i64 0, .int .i64 0] := by rw [hw13]; exact b_21
        clear hw13
        refine hK.out _ _ (HC.out _ (drz (E6.trans (E3.trans (E4.trans (E7.trans (E8.trans E13))))))) (fun hHeld => ?_)
        clear hK K
        try simp only [layz]
        refine rz1 10 (fun K hK => ?_)
        go_simp
        go_at_call 69
        refine Calls.mono (C_spec_l1Below _ B 60 (cuz hc13) b_33 b_33) ?_
        rintro e w10 ⟨hd10, hc10, x10, rfl, hx10, hy10⟩
        obtain ⟨E10, z10⟩ := ez w13 hd10
        have hv10 : IntKind.i64.wrap (40 + x10) = 40 + x10 := IntWalk.i64_in _ b_34
        clear hd10
        refine hK.out _ _ (HC.out _ (drz (E6.trans (E3.trans (E4.trans (E7.trans (E8.trans (E13.trans E10)))))))) (fun hHeld => ?_)
        clear hK K
        try simp only [layz]
        refine tkz2 11 12 ?_
        try simp only [layz]
        refine rz1 14 (fun K hK => ?_)
        have hG : Blk w10 (w8.heap.size) 46 #[.slice none 0 0, .slice none 0 0, .slice none 0 0, .int .i64 0, .int .i64 0] := Dr.blk E10 hG13 b_34
        obtain ⟨k0, k1, k2, k3, k4, j0, j1, j2, j3, j4⟩ := blk5 hG
        have zG := hG.lt
        go_simp
        refine abs_world (fun w14 hw14 => ?_)
        obtain ⟨hG14, hK14, hs14, hc14, F14⟩ := stored5 (v0 := .slice An (List.length m) cn) (v1 := .slice A4 (List.length b) c4) (v2 := .slice A8 (List.length kn) c8) (v3 := .int .i64 (40 + x10)) (v4 := .int .i64 0) hG b_25 (B := B) b_34 hc10
        have F14 := F14 WT b_34 (E6.trans (E3.trans (E4.trans (E7.trans (E8.trans (E13.trans E10))))))
        have hM14 := HM.out.dr F14 b_34
        have hb14 := (HB.out.dr (E7.trans (E8.trans (E13.trans E10))) b_34).keep hs14 (fun q h1 h2 => hK14 q b_34)
        have hk14 := (HKN.out.dr (E13.trans E10) b_34).keep hs14 (fun q h1 h2 => hK14 q b_34)
        clear hw14 hK14 hG
        refine hK.out _ _ (HC.out _ F14) (fun hHeld => ?_)
        clear hK K
        try simp only [layz]
        refine wpAnyH_done b_31 ?_ _
        refine NoPanic.normal ?_
        have mm : w14.heap.size ≤ w14.heap.size := Nat.le_refl _
        have QY : RdI tData (w.heap.size + 1) w14.heap.size w14 [.slice An (List.length m) cn, .slice A4 (List.length b) c4, .slice A8 (List.length kn) c8, .int .i64 (40 + x10), .int .i64 0] (m, b, kn, 40 + x10, 0) := RdI.data (x := (m, b, kn, 40 + x10, 0)) (hM14.mono (Nat.le_refl _) hM14.1 mm) (hb14.mono b_34 hb14.1 mm) (hk14.mono b_34 hk14.1 mm) (show -9223372036854775808 ≤ 40 + x10 ∧ 40 + x10 ≤ 9223372036854775807 by omega) (show -9223372036854775808 ≤ (0 : Int) ∧ (0 : Int) ≤ 9223372036854775807 by decide)
        go_wp2_with fail
        go_meet
        exact ⟨w8.heap.size, An, cn, A4, c4, A8, c8, (m, b, kn, 40 + x10, 0), rfl, hG14, QY, ⟨okAny.of _ hV2, (show List.length b ≤ 61 by omega), HS3.out⟩, hc14, F14, by omega, by omega⟩
      ·go_simp
       refine abs_world (fun w13 hw13 => ?_)
       obtain ⟨E13, hc13, z13⟩ := nz hw13 hc7
       have hG13 : Blk w13 w7.heap.size 46 #[.slice none 0 0, .slice none 0 0, .slice none 0 0, .int .i64 0, .int .i64 0] := by rw [hw13]; exact b_21
       clear hw13
       refine hK.out _ _ (HC.out _ (drz (E6.trans (E3.trans (E4.trans (E7.trans E13)))))) (fun hHeld => ?_)
       clear hK K
       try simp only [layz]
       refine rz1 8 (fun K hK => ?_)
       go_simp
       go_at_call 138
       refine Calls.mono (C_spec_l4Of _ s b_34) ?_
       rintro e w8 ⟨cs8, fp8, rfl, how8, hfr8, hb8⟩
       obtain ⟨E8, z8⟩ := ez w13 (Dr.of hb8 B)
       have hc8 : CurT w8 B := Cur.below (cuz hc13) hb8
       obtain ⟨A8, c8, rfl⟩ := Ty.ow_slv how8
       obtain ⟨lk, hlk⟩ : ∃ lk, lk = w13.heap.size := ⟨_, rfl⟩
       have HKN := Lib.hid (show RdI (.sl .str) lk w8.heap.size w8 _ (pnS s).1 from oz how8 hfr8)
       clear how8 hfr8
       generalize (pnS s).1 = kn at HKN HS3 ⊢
       clear hb8
       refine hK.out _ _ (HC.out _ (drz (E6.trans (E3.trans (E4.trans (E7.trans (E13.trans E8))))))) (fun hHeld => ?_)
       clear hK K
       try simp only [layz]
       refine rz1 10 (fun K hK => ?_)
       go_simp
       go_at_call 69
       refine Calls.mono (C_spec_l1Below _ B 60 (cuz hc8) b_33 b_33) ?_
       rintro e w10 ⟨hd10, hc10, x10, rfl, hx10, hy10⟩
       obtain ⟨E10, z10⟩ := ez w8 hd10
       have hv10 : IntKind.i64.wrap (40 + x10) = 40 + x10 := IntWalk.i64_in _ b_34
       clear hd10
       refine hK.out _ _ (HC.out _ (drz (E6.trans (E3.trans (E4.trans (E7.trans (E13.trans (E8.trans E10)))))))) (fun hHeld => ?_)
       clear hK K
       try simp only [layz]
       refine tkz2 11 12 ?_
       try simp only [layz]
       refine rz1 14 (fun K hK => ?_)
       have hG : Blk w10 (w7.heap.size) 46 #[.slice none 0 0, .slice none 0 0, .slice none 0 0, .int .i64 0, .int .i64 0] := Dr.blk (E8.trans E10) hG13 b_34
       obtain ⟨k0, k1, k2, k3, k4, j0, j1, j2, j3, j4⟩ := blk5 hG
       have zG := hG.lt
       go_simp
       refine abs_world (fun w14 hw14 => ?_)
       obtain ⟨hG14, hK14, hs14, hc14, F14⟩ := stored5 (v0 := .slice An (List.length m) cn) (v1 := .slice A4 (List.length b) c4) (v2 := .slice A8 (List.length kn) c8) (v3 := .int .i64 (40 + x10)) (v4 := .int .i64 0) hG b_25 (B := B) b_34 hc10
       have F14 := F14 WT b_34 (E6.trans (E3.trans (E4.trans (E7.trans (E13.trans (E8.trans E10))))))
       have hM14 := HM.out.dr F14 b_34
       have hb14 := (HB.out.dr (E7.trans (E13.trans (E8.trans E10))) b_34).keep hs14 (fun q h1 h2 => hK14 q b_34)
       have hk14 := (HKN.out.dr E10 b_34).keep hs14 (fun q h1 h2 => hK14 q b_34)
       clear hw14 hK14 hG
       refine hK.out _ _ (HC.out _ F14) (fun hHeld => ?_)
       clear hK K
       try simp only [layz]
       refine wpAnyH_done b_31 ?_ _
       refine NoPanic.normal ?_
       have mm : w14.heap.size ≤ w14.heap.size := Nat.le_refl _
       have QY : RdI tData (w.heap.size + 1) w14.heap.size w14 [.slice An (List.length m) cn, .slice A4 (List.length b) c4, .slice A8 (List.length kn) c8, .int .i64 (40 + x10), .int .i64 0] (m, b, kn, 40 + x10, 0) := RdI.data (x := (m, b, kn, 40 + x10, 0)) (hM14.mono (Nat.le_refl _) hM14.1 mm) (hb14.mono b_34 hb14.1 mm) (hk14.mono b_34 hk14.1 mm) (show -9223372036854775808 ≤ 40 + x10 ∧ 40 + x10 ≤ 9223372036854775807 by omega) (show -9223372036854775808 ≤ (0 : Int) ∧ (0 : Int) ≤ 9223372036854775807 by decide)
       go_wp2_with fail
       go_meet
       exact ⟨w7.heap.size, An, cn, A4, c4, A8, c8, (m, b, kn, 40 + x10, 0), rfl, hG14, QY, ⟨okAny.of _ hV2, (show List.length b ≤ 61 by omega), HS3.out⟩, hc14, F14, by omega, by omega⟩
     ·go_simp
      refine abs_world (fun w13 hw13 => ?_)
      obtain ⟨E13, hc13, z13⟩ := nz hw13 hc4
      have hG13 : Blk w13 w4.heap.size 46 #[.slice none 0 0, .slice none 0 0, .slice none 0 0, .int .i64 0, .int .i64 0] := by rw [hw13]; exact b_21
      clear hw13
      refine hK.out _ _ (HC.out _ (drz (E6.trans (E3.trans (E4.trans E13))))) (fun hHeld => ?_)
      clear hK K
      try simp only [layz]
      refine rz1 7 (fun K hK => ?_)
      go_simp
      go_at_call 140
      refine Calls.mono (C_spec_l1Str _ B _ [[47, 107, 101, 121, 47, 97], [47, 107, 101, 121, 47, 98], [47, 97, 47, 107, 101, 121]] (cuz hc13) ((HL6.out.dr (B := B) (drz (E3.trans (E4.trans E13))) b_34).hide b_34) b_33 b_33) ?_
      rintro e w7 ⟨hd7, hc7, s, hs, rfl⟩
      obtain ⟨E7, z7⟩ := ez w13 hd7
      have hs3 := key3 hs
      have HS3 := Lib.hid hs3.1
      have hsl := hs3.2
      clear hs hs3
      clear hd7
      refine hK.out _ _ (HC.out _ (drz (E6.trans (E3.trans (E4.trans (E13.trans E7)))))) (fun hHeld => ?_)
      clear hK K
      try simp only [layz]
      refine rz1 8 (fun K hK => ?_)
      go_simp
      go_at_call 138
      refine Calls.mono (C_spec_l4Of _ s b_34) ?_
      rintro e w8 ⟨cs8, fp8, rfl, how8, hfr8, hb8⟩
      obtain ⟨E8, z8⟩ := ez w7 (Dr.of hb8 B)
      have hc8 : CurT w8 B := Cur.below (cuz hc7) hb8
      obtain ⟨A8, c8, rfl⟩ := Ty.ow_slv how8
      obtain ⟨lk, hlk⟩ : ∃ lk, lk = w7.heap.size := ⟨_, rfl⟩
      have HKN := Lib.hid (show RdI (.sl .str) lk w8.heap.size w8 _ (pnS s).1 from oz how8 hfr8)
      clear how8 hfr8
      generalize (pnS s).1 = kn at HKN HS3 ⊢
      clear hb8
      refine hK.out _ _ (HC.out _ (drz (E6.trans (E3.trans (E4.trans (E13.trans (E7.trans E8))))))) (fun hHeld => ?_)
      clear hK K
      try simp only [layz]
      refine rz1 10 (fun K hK => ?_)
      go_simp
      go_at_call 69
      refine Calls.mono (C_spec_l1Below _ B 60 (cuz hc8) b_33 b_33) ?_
      rintro e w10 ⟨hd10, hc10, x10, rfl, hx10, hy10⟩
      obtain ⟨E10, z10⟩ := ez w8 hd10
      have hv10 : IntKind.i64.wrap (40 + x10) = 40 + x10 := IntWalk.i64_in _ b_34
      clear hd10
      refine hK.out _ _ (HC.out _ (drz (E6.trans (E3.trans (E4.trans (E13.trans (E7.trans (E8.trans E10)))))))) (fun hHeld => ?_)
      clear hK K
      try simp only [layz]
      refine tkz2 11 12 ?_
      try simp only [layz]
      refine rz1 14 (fun K hK => ?_)
      have hG : Blk w10 (w4.heap.size) 46 #[.slice none 0 0, .slice none 0 0, .slice none 0 0, .int .i64 0, .int .i64 0] := Dr.blk (E7.trans (E8.trans E10)) hG13 b_34
      obtain ⟨k0, k1, k2, k3, k4, j0, j1, j2, j3, j4⟩ := blk5 hG
      have zG := hG.lt
      go_simp
      refine abs_world (fun w14 hw14 => ?_)
      obtain ⟨hG14, hK14, hs14, hc14, F14⟩ := stored5 (v0 := .slice An (List.length m) cn) (v1 := .slice A4 (List.length b) c4) (v2 := .slice A8 (List.length kn) c8) (v3 := .int .i64 (40 + x10)) (v4 := .int .i64 0) hG b_25 (B := B) b_34 hc10
      have F14 := F14 WT b_34 (E6.trans (E3.trans (E4.trans (E13.trans (E7.trans (E8.trans E10))))))
      have hM14 := HM.out.dr F14 b_34
      have hb14 := (HB.out.dr (E13.trans (E7.trans (E8.trans E10))) b_34).keep hs14 (fun q h1 h2 => hK14 q b_34)
      have hk14 := (HKN.out.dr E10 b_34).keep hs14 (fun q h1 h2 => hK14 q b_34)
      clear hw14 hK14 hG
      refine hK.out _ _ (HC.out _ F14) (fun hHeld => ?_)
      clear hK K
      try simp only [layz]
      refine wpAnyH_done b_31 ?_ _
      refine NoPanic.normal ?_
      have mm : w14.heap.size ≤ w14.heap.size := Nat.le_refl _
      have QY : RdI tData (w.heap.size + 1) w14.heap.size w14 [.slice An (List.length m) cn, .slice A4 (List.length b) c4, .slice A8 (List.length kn) c8, .int .i64 (40 + x10), .int .i64 0] (m, b, kn, 40 + x10, 0) := RdI.data (x := (m, b, kn, 40 + x10, 0)) (hM14.mono (Nat.le_refl _) hM14.1 mm) (hb14.mono b_34 hb14.1 mm) (hk14.mono b_34 hk14.1 mm) (show -9223372036854775808 ≤ 40 + x10 ∧ 40 + x10 ≤ 9223372036854775807 by omega) (show -9223372036854775808 ≤ (0 : Int) ∧ (0 : Int) ≤ 9223372036854775807 by decide)
      go_wp2_with fail
      go_meet
      exact ⟨w4.heap.size, An, cn, A4, c4, A8, c8, (m, b, kn, 40 + x10, 0), rfl, hG14, QY, ⟨okAny.of _ hV2, (show List.length b ≤ 61 by omega), HS3.out⟩, hc14, F14, by omega, by omega⟩
    ·go_simp
     refine abs_world (fun w13 hw13 => ?_)
     obtain ⟨E13, hc13, z13⟩ := nz hw13 hc3
     have hG13 : Blk w13 w3.heap.size 46 #[.slice none 0 0, .slice none 0 0, .slice none 0 0, .int .i64 0, .int .i64 0] := by rw [hw13]; exact b_21
     clear hw13
     refine hK.out _ _ (HC.out _ (drz (E6.trans (E3.trans E13)))) (fun hHeld => ?_)
     clear hK K
     try simp only [layz]
     refine rz1 4 (fun K hK => ?_)
     go_simp
     go_at_call 149
     refine Calls.mono (C_spec_l1Bytes _ B ka (cuz hc13) b_34) ?_
     rintro e w4 ⟨hd4, hc4, A4, b, c4, fp4, rfl, how4, hfr4, hlb⟩
     obtain ⟨E4, z4⟩ := ez w13 hd4
     subst hlb
     obtain ⟨lb, hlb4⟩ : ∃ lb, lb = w13.heap.size := ⟨_, rfl⟩
     have HB := Lib.hid (show RdI (.sl .byte) lb w4.heap.size w4 _ b from oz how4 hfr4)
     clear how4 hfr4
     clear hd4
     refine hK.out _ _ (HC.out _ (drz (E6.trans (E3.trans (E13.trans E4))))) (fun hHeld => ?_)
     clear hK K
     try simp only [layz]
     refine rz1 7 (fun K hK => ?_)
     go_simp
     go_at_call 140
     refine Calls.mono (C_spec_l1Str _ B _ [[47, 107, 101, 121, 47, 97], [47, 107, 101, 121, 47, 98], [47, 97, 47, 107, 101, 121]] (cuz hc4) ((HL6.out.dr (B := B) (drz (E3.trans (E13.trans E4))) b_34).hide b_34) b_33 b_33) ?_
     rintro e w7 ⟨hd7, hc7, s, hs, rfl⟩
     obtain ⟨E7, z7⟩ := ez w4 hd7
     have hs3 := key3 hs
     have HS3 := Lib.hid hs3.1
     have hsl := hs3.2
     clear hs hs3
     clear hd7
     refine hK.out _ _ (HC.out _ (drz (E6.trans (E3.trans (E13.trans (E4.trans E7)))))) (fun hHeld => ?_)
     clear hK K
     try simp only [layz]
     refine rz1 8 (fun K hK => ?_)
     go_simp
     go_at_call 138
     refine Calls.mono (C_spec_l4Of _ s b_34) ?_
     rintro e w8 ⟨cs8, fp8, rfl, how8, hfr8, hb8⟩
     obtain ⟨E8, z8⟩ := ez w7 (Dr.of hb8 B)
     have hc8 : CurT w8 B := Cur.below (cuz hc7) hb8
     obtain ⟨A8, c8, rfl⟩ := Ty.ow_slv how8
     obtain ⟨lk, hlk⟩ : ∃ lk, lk = w7.heap.size := ⟨_, rfl⟩
     have HKN := Lib.hid (show RdI (.sl .str) lk w8.heap.size w8 _ (pnS s).1 from oz how8 hfr8)
     clear how8 hfr8
     generalize (pnS s).1 = kn at HKN HS3 ⊢
     clear hb8
     refine hK.out _ _ (HC.out _ (drz (E6.trans (E3.trans (E13.trans (E4.trans (E7.trans E8))))))) (fun hHeld => ?_)
     clear hK K
     try simp only [layz]
     refine rz1 10 (fun K hK => ?_)
     go_simp
     go_at_call 69
     refine Calls.mono (C_spec_l1Below _ B 60 (cuz hc8) b_33 b_33) ?_
     rintro e w10 ⟨hd10, hc10, x10, rfl, hx10, hy10⟩
     obtain ⟨E10, z10⟩ := ez w8 hd10
     have hv10 : IntKind.i64.wrap (40 + x10) = 40 + x10 := IntWalk.i64_in _ b_34
     clear hd10
     refine hK.out _ _ (HC.out _ (drz (E6.trans (E3.trans (E13.trans (E4.trans (E7.trans (E8.trans E10)))))))) (fun hHeld => ?_)
     clear hK K
     try simp only [layz]
     refine tkz2 11 12 ?_
     try simp only [layz]
     refine rz1 14 (fun K hK => ?_)
     have hG : Blk w10 (w3.heap.size) 46 #[.slice none 0 0, .slice none 0 0, .slice none 0 0, .int .i64 0, .int .i64 0] := Dr.blk (E4.trans (E7.trans (E8.trans E10))) hG13 b_34
     obtain ⟨k0, k1, k2, k3, k4, j0, j1, j2, j3, j4⟩ := blk5 hG
     have zG := hG.lt
     go_simp
     refine abs_world (fun w14 hw14 => ?_)
     obtain ⟨hG14, hK14, hs14, hc14, F14⟩ := stored5 (v0 := .slice An (List.length m) cn) (v1 := .slice A4 (List.length b) c4) (v2 := .slice A8 (List.length kn) c8) (v3 := .int .i64 (40 + x10)) (v4 := .int .i64 0) hG b_25 (B := B) b_34 hc10
     have F14 := F14 WT b_34 (E6.trans (E3.trans (E13.trans (E4.trans (E7.trans (E8.trans E10))))))
     have hM14 := HM.out.dr F14 b_34
     have hb14 := (HB.out.dr (E7.trans (E8.trans E10)) b_34).keep hs14 (fun q h1 h2 => hK14 q b_34)
     have hk14 := (HKN.out.dr E10 b_34).keep hs14 (fun q h1 h2 => hK14 q b_34)
     clear hw14 hK14 hG
     refine hK.out _ _ (HC.out _ F14) (fun hHeld => ?_)
     clear hK K
     try simp only [layz]
     refine wpAnyH_done b_31 ?_ _
     refine NoPanic.normal ?_
     have mm : w14.heap.size ≤ w14.heap.size := Nat.le_refl _
     have QY : RdI tData (w.heap.size + 1) w14.heap.size w14 [.slice An (List.length m) cn, .slice A4 (List.length b) c4, .slice A8 (List.length kn) c8, .int .i64 (40 + x10), .int .i64 0] (m, b, kn, 40 + x10, 0) := RdI.data (x := (m, b, kn, 40 + x10, 0)) (hM14.mono (Nat.le_refl _) hM14.1 mm) (hb14.mono b_34 hb14.1 mm) (hk14.mono b_34 hk14.1 mm) (show -9223372036854775808 ≤ 40 + x10 ∧ 40 + x10 ≤ 9223372036854775807 by omega) (show -9223372036854775808 ≤ (0 : Int) ∧ (0 : Int) ≤ 9223372036854775807 by decide)
     go_wp2_with fail
     go_meet
     exact ⟨w3.heap.size, An, cn, A4, c4, A8, c8, (m, b, kn, 40 + x10, 0), rfl, hG14, QY, ⟨okAny.of _ hV2, (show List.length b ≤ 61 by omega), HS3.out⟩, hc14, F14, by omega, by omega⟩
   ·go_simp
    refine abs_world (fun w13 hw13 => ?_)
    obtain ⟨E13, hc13, z13⟩ := nz hw13 hc6
    have hG13 : Blk w13 w6.heap.size 46 #[.slice none 0 0, .slice none 0 0, .slice none 0 0, .int .i64 0, .int .i64 0] := by rw [hw13]; exact b_21
    clear hw13
    refine hK.out _ _ (HC.out _ (drz (E6.trans E13))) (fun hHeld => ?_)
    clear hK K
    try simp only [layz]
    refine rz1 3 (fun K hK => ?_)
    go_simp
    go_at_call 69
    refine Calls.mono (C_spec_l1Below _ B 5 (cuz hc13) b_33 b_33) ?_
    rintro e w3 ⟨hd3, hc3, x3, rfl, hx3, hy3⟩
    obtain ⟨E3, z3⟩ := ez w13 hd3
    obtain ⟨ka, rfl⟩ : ∃ k : Nat, x3 = k := ⟨x3.toNat, by omega⟩
    clear hd3
    refine hK.out _ _ (HC.out _ (drz (E6.trans (E13.trans E3)))) (fun hHeld => ?_)
    clear hK K
    try simp only [layz]
    refine rz1 4 (fun K hK => ?_)
    go_simp
    go_at_call 149
    refine Calls.mono (C_spec_l1Bytes _ B ka (cuz hc3) b_34) ?_
    rintro e w4 ⟨hd4, hc4, A4, b, c4, fp4, rfl, how4, hfr4, hlb⟩
    obtain ⟨E4, z4⟩ := ez w3 hd4
    subst hlb
    obtain ⟨lb, hlb4⟩ : ∃ lb, lb = w3.heap.size := ⟨_, rfl⟩
    have HB := Lib.hid (show RdI (.sl .byte) lb w4.heap.size w4 _ b from oz how4 hfr4)
    clear how4 hfr4
    clear hd4
    refine hK.out _ _ (HC.out _ (drz (E6.trans (E13.trans (E3.trans E4))))) (fun hHeld => ?_)
    clear hK K
    try simp only [layz]
    refine rz1 7 (fun K hK => ?_)
    go_simp
    go_at_call 140
    refine Calls.mono (C_spec_l1Str _ B _ [[47, 107, 101, 121, 47, 97], [47, 107, 101, 121, 47, 98], [47, 97, 47, 107, 101, 121]] (cuz hc4) ((HL6.out.dr (B := B) (drz (E13.trans (E3.trans E4))) b_34).hide b_34) b_33 b_33) ?_
    rintro e w7 ⟨hd7, hc7, s, hs, rfl⟩
    obtain ⟨E7, z7⟩ := ez w4 hd7
    have hs3 := key3 hs
    have HS3 := Lib.hid hs3.1
    have hsl := hs3.2
    clear hs hs3
    clear hd7
    refine hK.out _ _ (HC.out _ (drz (E6.trans (E13.trans (E3.trans (E4.trans E7)))))) (fun hHeld => ?_)
    clear hK K
    try simp only [layz]
    refine rz1 8 (fun K hK => ?_)
    go_simp
    go_at_call 138
    refine Calls.mono (C_spec_l4Of _ s b_34) ?_
    rintro e w8 ⟨cs8, fp8, rfl, how8, hfr8, hb8⟩
    obtain ⟨E8, z8⟩ := ez w7 (Dr.of hb8 B)
    have hc8 : CurT w8 B := Cur.below (cuz hc7) hb8
    obtain ⟨A8, c8, rfl⟩ := Ty.ow_slv how8
    obtain ⟨lk, hlk⟩ : ∃ lk, lk = w7.heap.size := ⟨_, rfl⟩
    have HKN := Lib.hid (show RdI (.sl .str) lk w8.heap.size w8 _ (pnS s).1 from oz how8 hfr8)
    clear how8 hfr8
    generalize (pnS s).1 = kn at HKN HS3 ⊢
    clear hb8
    refine hK.out _ _ (HC.out _ (drz (E6.trans (E13.trans (E3.trans (E4.trans (E7.trans E8))))))) (fun hHeld => ?_)
    clear hK K
    try simp only [layz]
    refine rz1 10 (fun K hK => ?_)
    go_simp
    go_at_call 69
    refine Calls.mono (C_spec_l1Below _ B 60 (cuz hc8) b_33 b_33) ?_
    rintro e w10 ⟨hd10, hc10, x10, rfl, hx10, hy10⟩
    obtain ⟨E10, z10⟩ := ez w8 hd10
    have hv10 : IntKind.i64.wrap (40 + x10) = 40 + x10 := IntWalk.i64_in _ b_34
    clear hd10
    refine hK.out _ _ (HC.out _ (drz (E6.trans (E13.trans (E3.trans (E4.trans (E7.trans (E8.trans E10)))))))) (fun hHeld => ?_)
    clear hK K
    try simp only [layz]
    refine tkz2 11 12 ?_
    try simp only [layz]
    refine rz1 14 (fun K hK => ?_)
    have hG : Blk w10 (w6.heap.size) 46 #[.slice none 0 0, .slice none 0 0, .slice none 0 0, .int .i64 0, .int .i64 0] := Dr.blk (E3.trans (E4.trans (E7.trans (E8.trans E10)))) hG13 b_34
    obtain ⟨k0, k1, k2, k3, k4, j0, j1, j2, j3, j4⟩ := blk5 hG
    have zG := hG.lt
    go_simp
    refine abs_world (fun w14 hw14 => ?_)
    obtain ⟨hG14, hK14, hs14, hc14, F14⟩ := stored5 (v0 := .slice An (List.length m) cn) (v1 := .slice A4 (List.length b) c4) (v2 := .slice A8 (List.length kn) c8) (v3 := .int .i64 (40 + x10)) (v4 := .int .i64 0) hG b_25 (B := B) b_34 hc10
    have F14 := F14 WT b_34 (E6.trans (E13.trans (E3.trans (E4.trans (E7.trans (E8.trans E10))))))
    have hM14 := HM.out.dr F14 b_34
    have hb14 := (HB.out.dr (E7.trans (E8.trans E10)) b_34).keep hs14 (fun q h1 h2 => hK14 q b_34)
    have hk14 := (HKN.out.dr E10 b_34).keep hs14 (fun q h1 h2 => hK14 q b_34)
    clear hw14 hK14 hG
    refine hK.out _ _ (HC.out _ F14) (fun hHeld => ?_)
    clear hK K
    try simp only [layz]
    refine wpAnyH_done b_31 ?_ _
    refine NoPanic.normal ?_
    have mm : w14.heap.size ≤ w14.heap.size := Nat.le_refl _
    have QY : RdI tData (w.heap.size + 1) w14.heap.size w14 [.slice An (List.length m) cn, .slice A4 (List.length b) c4, .slice A8 (List.length kn) c8, .int .i64 (40 + x10), .int .i64 0] (m, b, kn, 40 + x10, 0) := RdI.data (x := (m, b, kn, 40 + x10, 0)) (hM14.mono (Nat.le_refl _) hM14.1 mm) (hb14.mono b_34 hb14.1 mm) (hk14.mono b_34 hk14.1 mm) (show -9223372036854775808 ≤ 40 + x10 ∧ 40 + x10 ≤ 9223372036854775807 by omega) (show -9223372036854775808 ≤ (0 : Int) ∧ (0 : Int) ≤ 9223372036854775807 by decide)
    go_wp2_with fail
    go_meet
    exact ⟨w6.heap.size, An, cn, A4, c4, A8, c8, (m, b, kn, 40 + x10, 0), rfl, hG14, QY, ⟨okAny.of _ hV2, (show List.length b ≤ 61 by omega), HS3.out⟩, hc14, F14, by omega, by omega⟩
  ·go_simp
   refine abs_world (fun w13 hw13 => ?_)
   obtain ⟨E13, hc13, z13⟩ := nz hw13 CT
   have hG13 : Blk w13 WT.heap.size 46 #[.slice none 0 0, .slice none 0 0, .slice none 0 0, .int .i64 0, .int .i64 0] := by rw [hw13]; exact b_21
   clear hw13
   refine hK.out _ _ (HC.out _ (drz E13)) (fun hHeld => ?_)
   clear hK K
   try simp only [layz]
   refine rz2 3 6 (fun K hK => ?_) (fun K hK => ?_)
   ·go_simp
    go_at_call 69
    refine Calls.mono (C_spec_l1Below _ B 5 (cuz hc13) b_33 b_33) ?_
    rintro e w3 ⟨hd3, hc3, x3, rfl, hx3, hy3⟩
    obtain ⟨E3, z3⟩ := ez w13 hd3
    obtain ⟨ka, rfl⟩ : ∃ k : Nat, x3 = k := ⟨x3.toNat, by omega⟩
    clear hd3
    refine hK.out _ _ (HC.out _ (drz (E13.trans E3))) (fun hHeld => ?_)
    clear hK K
    try simp only [layz]
    refine rz2 4 6 (fun K hK => ?_) (fun K hK => ?_)
    ·go_simp
     go_at_call 149
     refine Calls.mono (C_spec_l1Bytes _ B ka (cuz hc3) b_34) ?_
     rintro e w4 ⟨hd4, hc4, A4, b, c4, fp4, rfl, how4, hfr4, hlb⟩
     obtain ⟨E4, z4⟩ := ez w3 hd4
     subst hlb
     obtain ⟨lb, hlb4⟩ : ∃ lb, lb = w3.heap.size := ⟨_, rfl⟩
     have HB := Lib.hid (show RdI (.sl .byte) lb w4.heap.size w4 _ b from oz how4 hfr4)
     clear how4 hfr4
     clear hd4
     refine hK.out _ _ (HC.out _ (drz (E13.trans (E3.trans E4)))) (fun hHeld => ?_)
     clear hK K
     try simp only [layz]
     refine rz1 6 (fun K hK => ?_)
     go_simp
     refine abs_world (fun w6 hw6 => ?_)
     obtain ⟨E6, hc6, z6⟩ := nz hw6 hc4
     have HL6 := Lib.hid (show RdI (.sl .str) w4.heap.size (w4.heap.size + 1) w6 [.slice (some ⟨w4.heap.size, 0, none⟩) 3 3] [[47, 107, 101, 121, 47, 97], [47, 107, 101, 121, 47, 98], [47, 97, 47, 107, 101, 121]] by rw [hw6]; exact b_4)
     clear hw6
     refine hK.out _ _ (HC.out _ (drz (E13.trans (E3.trans (E4.trans E6))))) (fun hHeld => ?_)
     clear hK K
     try simp only [layz]
     refine rz1 7 (fun K hK => ?_)
     go_simp
     go_at_call 140
     refine Calls.mono (C_spec_l1Str _ B _ [[47, 107, 101, 121, 47, 97], [47, 107, 101, 121, 47, 98], [47, 97, 47, 107, 101, 121]] (cuz hc6) ((HL6.out.dr (B := B) (drz (Dr.refl B w6)) b_34).hide b_34) b_33 b_33) ?_
     rintro e w7 ⟨hd7, hc7, s, hs, rfl⟩
     obtain ⟨E7, z7⟩ := ez w6 hd7
     have hs3 := key3 hs
     have HS3 := Lib.hid hs3.1
     have hsl := hs3.2
     clear hs hs3
     clear hd7
     refine hK.out _ _ (HC.out _ (drz (E13.trans (E3.trans (E4.trans (E6.trans E7)))))) (fun hHeld => ?_)
     clear hK K
     try simp only [layz]
     refine rz1 8 (fun K hK => ?_)
     go_simp
     go_at_call 138
     refine Calls.mono (C_spec_l4Of _ s b_34) ?_
     rintro e w8 ⟨cs8, fp8, rfl, how8, hfr8, hb8⟩
     obtain ⟨E8, z8⟩ := ez w7 (Dr.of hb8 B)
     have hc8 : CurT w8 B := Cur.below (cuz hc7) hb8
     obtain ⟨A8, c8, rfl⟩ := Ty.ow_slv how8
     obtain ⟨lk, hlk⟩ : ∃ lk, lk = w7.heap.size := ⟨_, rfl⟩
     have HKN := Lib.hid (show RdI (.sl .str) lk w8.heap.size w8 _ (pnS s).1 from oz how8 hfr8)
     clear how8 hfr8
     generalize (pnS s).1 = kn at HKN HS3 ⊢
     clear hb8
     refine hK.out _ _ (HC.out _ (drz (E13.trans (E3.trans (E4.trans (E6.trans (E7.trans E8))))))) (fun hHeld => ?_)
     clear hK K
     try simp only [layz]
     refine rz1 10 (fun K hK => ?_)
     go_simp
     go_at_call 69
     refine Calls.mono (C_spec_l1Below _ B 60 (cuz hc8) b_33 b_33) ?_
     rintro e w10 ⟨hd10, hc10, x10, rfl, hx10, hy10⟩
     obtain ⟨E10, z10⟩ := ez w8 hd10
     have hv10 : IntKind.i64.wrap (40 + x10) = 40 + x10 := IntWalk.i64_in _ b_34
     clear hd10
     refine hK.out _ _ (HC.out _ (drz (E13.trans (E3.trans (E4.trans (E6.trans (E7.trans (E8.trans E10)))))))) (fun hHeld => ?_)
     clear hK K
     try simp only [layz]
     refine tkz2 11 12 ?_
     try simp only [layz]
     refine rz1 14 (fun K hK => ?_)
     have hG : Blk w10 (WT.heap.size) 46 #[.slice none 0 0, .slice none 0 0, .slice none 0 0, .int .i64 0, .int .i64 0] := Dr.blk (E3.trans (E4.trans (E6.trans (E7.trans (E8.trans E10))))) hG13 b_34
     obtain ⟨k0, k1, k2, k3, k4, j0, j1, j2, j3, j4⟩ := blk5 hG
     have zG := hG.lt
     go_simp
     refine abs_world (fun w14 hw14 => ?_)
     obtain ⟨hG14, hK14, hs14, hc14, F14⟩ := stored5 (v0 := .slice An (List.length m) cn) (v1 := .slice A4 (List.length b) c4) (v2 := .slice A8 (List.length kn) c8) (v3 := .int .i64 (40 + x10)) (v4 := .int .i64 0) hG b_25 (B := B) b_34 hc10
     have F14 := F14 WT b_34 (E13.trans (E3.trans (E4.trans (E6.trans (E7.trans (E8.trans E10))))))
     have hM14 := HM.out.dr F14 b_34
     have hb14 := (HB.out.dr (E6.trans (E7.trans (E8.trans E10))) b_34).keep hs14 (fun q h1 h2 => hK14 q b_34)
     have hk14 := (HKN.out.dr E10 b_34).keep hs14 (fun q h1 h2 => hK14 q b_34)
     clear hw14 hK14 hG
     refine hK.out _ _ (HC.out _ F14) (fun hHeld => ?_)
     clear hK K
     try simp only [layz]
     refine wpAnyH_done b_31 ?_ _
     refine NoPanic.normal ?_
     have mm : w14.heap.size ≤ w14.heap.size := Nat.le_refl _
     have QY : RdI tData (w.heap.size + 1) w14.heap.size w14 [.slice An (List.length m) cn, .slice A4 (List.length b) c4, .slice A8 (List.length kn) c8, .int .i64 (40 + x10), .int .i64 0] (m, b, kn, 40 + x10, 0) := RdI.data (x := (m, b, kn, 40 + x10, 0)) (hM14.mono (Nat.le_refl _) hM14.1 mm) (hb14.mono b_34 hb14.1 mm) (hk14.mono b_34 hk14.1 mm) (show -9223372036854775808 ≤ 40 + x10 ∧ 40 + x10 ≤ 9223372036854775807 by omega) (show -9223372036854775808 ≤ (0 : Int) ∧ (0 : Int) ≤ 9223372036854775807 by decide)
     go_wp2_with fail
     go_meet
     exact ⟨WT.heap.size, An, cn, A4, c4, A8, c8, (m, b, kn, 40 + x10, 0), rfl, hG14, QY, ⟨okAny.of _ hV2, (show List.length b ≤ 61 by omega), HS3.out⟩, hc14, F14, by omega, by omega⟩
    ·go_simp
     refine abs_world (fun w6 hw6 => ?_)
     obtain ⟨E6, hc6, z6⟩ := nz hw6 hc3
     have HL6 := Lib.hid (show RdI (.sl .str) w3.heap.size (w3.heap.size + 1) w6 [.slice (some ⟨w3.heap.size, 0, none⟩) 3 3] [[47, 107, 101, 121, 47, 97], [47, 107, 101, 121, 47, 98], [47, 97, 47, 107, 101, 121]] by rw [hw6]; exact b_4)
     clear hw6
     refine hK.out _ _ (HC.out _ (drz (E13.trans (E3.trans E6)))) (fun hHeld => ?_)
     clear hK K
     try simp only [layz]
     refine rz1 4 (fun K hK => ?_)
     go_simp
     go_at_call 149
     refine Calls.mono (C_spec_l1Bytes _ B ka (cuz hc6) b_34) ?_
     rintro e w4 ⟨hd4, hc4, A4, b, c4, fp4, rfl, how4, hfr4, hlb⟩
     obtain ⟨E4, z4⟩ := ez w6 hd4
     subst hlb
     obtain ⟨lb, hlb4⟩ : ∃ lb, lb = w6.heap.size := ⟨_, rfl⟩
     have HB := Lib.hid (show RdI (.sl .byte) lb w4.heap.size w4 _ b from oz how4 hfr4)
     clear how4 hfr4
     clear hd4
     refine hK.out _ _ (HC.out _ (drz (E13.trans (E3.trans (E6.trans E4))))) (fun hHeld => ?_)
     clear hK K
     try simp only [layz]
     refine rz1 7 (fun K hK => ?_)
     go_simp
     go_at_call 140
     refine Calls.mono (C_spec_l1Str _ B _ [[47, 107, 101, 121, 47, 97], [47, 107, 101, 121, 47, 98], [47, 97, 47, 107, 101, 121]] (cuz hc4) ((HL6.out.dr (B := B) (drz E4) b_34).hide b_34) b_33 b_33) ?_
     rintro e w7 ⟨hd7, hc7, s, hs, rfl⟩
     obtain ⟨E7, z7⟩ := ez w4 hd7
     have hs3 := key3 hs
     have HS3 := Lib.hid hs3.1
     have hsl := hs3.2
     clear hs hs3
     clear hd7
     refine hK.out _ _ (HC.out _ (drz (E13.trans (E3.trans (E6.trans (E4.trans E7)))))) (fun hHeld => ?_)
     clear hK K
     try simp only [layz]
     refine rz1 8 (fun K hK => ?_)
     go_simp
     go_at_call 138
     refine Calls.mono (C_spec_l4Of _ s b_34) ?_
     rintro e w8 ⟨cs8, fp8, rfl, how8, hfr8, hb8⟩
     obtain ⟨E8, z8⟩ := ez w7 (Dr.of hb8 B)
     have hc8 : CurT w8 B := Cur.below (cuz hc7) hb8
     obtain ⟨A8, c8, rfl⟩ := Ty.ow_slv how8
     obtain ⟨lk, hlk⟩ : ∃ lk, lk = w7.heap.size := ⟨_, rfl⟩
     have HKN := Lib.hid (show RdI (.sl .str) lk w8.heap.size w8 _ (pnS s).1 from oz how8 hfr8)
     clear how8 hfr8
     generalize (pnS s).1 = kn at HKN HS3 ⊢
     clear hb8
     refine hK.out _ _ (HC.out _ (drz (E13.trans (E3.trans (E6.trans (E4.trans (E7.trans E8))))))) (fun hHeld => ?_)
     clear hK K
     try simp only [layz]
     refine rz1 10 (fun K hK => ?_)
     go_simp
     go_at_call 69
     refine Calls.mono (C_spec_l1Below _ B 60 (cuz hc8) b_33 b_33) ?_
     rintro e w10 ⟨hd10, hc10, x10, rfl, hx10, hy10⟩
     obtain ⟨E10, z10⟩ := ez w8 hd10
     have hv10 : IntKind.i64.wrap (40 + x10) = 40 + x10 := IntWalk.i64_in _ b_34
     clear hd10
     refine hK.out _ _ (HC.out _ (drz (E13.trans (E3.trans (E6.trans (E4.trans (E7.trans (E8.trans E10)))))))) (fun hHeld => ?_)
     clear hK K
     try simp only [layz]
     refine tkz2 11 12 ?_
     try simp only [layz]
     refine rz1 14 (fun K hK => ?_)
     have hG : Blk w10 (WT.heap.size) 46 #[.slice none 0 0, .slice none 0 0, .slice none 0 0, .int .i64 0, .int .i64 0] := Dr.blk (E3.trans (E6.trans (E4.trans (E7.trans (E8.trans E10))))) hG13 b_34
     obtain ⟨k0, k1, k2, k3, k4, j0, j1, j2, j3, j4⟩ := blk5 hG
     have zG := hG.lt
     go_simp
     refine abs_world (fun w14 hw14 => ?_)
     obtain ⟨hG14, hK14, hs14, hc14, F14⟩ := stored5 (v0 := .slice An (List.length m) cn) (v1 := .slice A4 (List.length b) c4) (v2 := .slice A8 (List.length kn) c8) (v3 := .int .i64 (40 + x10)) (v4 := .int .i64 0) hG b_25 (B := B) b_34 hc10
     have F14 := F14 WT b_34 (E13.trans (E3.trans (E6.trans (E4.trans (E7.trans (E8.trans E10))))))
     have hM14 := HM.out.dr F14 b_34
     have hb14 := (HB.out.dr (E7.trans (E8.trans E10)) b_34).keep hs14 (fun q h1 h2 => hK14 q b_34)
     have hk14 := (HKN.out.dr E10 b_34).keep hs14 (fun q h1 h2 => hK14 q b_34)
     clear hw14 hK14 hG
     refine hK.out _ _ (HC.out _ F14) (fun hHeld => ?_)
     clear hK K
     try simp only [layz]
     refine wpAnyH_done b_31 ?_ _
     refine NoPanic.normal ?_
     have mm : w14.heap.size ≤ w14.heap.size := Nat.le_refl _
     have QY : RdI tData (w.heap.size + 1) w14.heap.size w14 [.slice An (List.length m) cn, .slice A4 (List.length b) c4, .slice A8 (List.length kn) c8, .int .i64 (40 + x10), .int .i64 0] (m, b, kn, 40 + x10, 0) := RdI.data (x := (m, b, kn, 40 + x10, 0)) (hM14.mono (Nat.le_refl _) hM14.1 mm) (hb14.mono b_34 hb14.1 mm) (hk14.mono b_34 hk14.1 mm) (show -9223372036854775808 ≤ 40 + x10 ∧ 40 + x10 ≤ 9223372036854775807 by omega) (show -9223372036854775808 ≤ (0 : Int) ∧ (0 : Int) ≤ 9223372036854775807 by decide)
     go_wp2_with fail
     go_meet
     exact ⟨WT.heap.size, An, cn, A4, c4, A8, c8, (m, b, kn, 40 + x10, 0), rfl, hG14, QY, ⟨okAny.of _ hV2, (show List.length b ≤ 61 by omega), HS3.out⟩, hc14, F14, by omega, by omega⟩
   ·go_simp
    refine abs_world (fun w6 hw6 => ?_)
    obtain ⟨E6, hc6, z6⟩ := nz hw6 hc13
    have HL6 := Lib.hid (show RdI (.sl .str) w13.heap.size (w13.heap.size + 1) w6 [.slice (some ⟨w13.heap.size, 0, none⟩) 3 3] [[47, 107, 101, 121, 47, 97], [47, 107, 101, 121, 47, 98], [47, 97, 47, 107, 101, 121]] by rw [hw6]; exact b_4)
    clear hw6
    refine hK.out _ _ (HC.out _ (drz (E13.trans E6))) (fun hHeld => ?_)
    clear hK K
    try simp only [layz]
    refine rz1 3 (fun K hK => ?_)
    go_simp
    go_at_call 69
    refine Calls.mono (C_spec_l1Below _ B 5 (cuz hc6) b_33 b_33) ?_
    rintro e w3 ⟨hd3, hc3, x3, rfl, hx3, hy3⟩
    obtain ⟨E3, z3⟩ := ez w6 hd3
    obtain ⟨ka, rfl⟩ : ∃ k : Nat, x3 = k := ⟨x3.toNat, by omega⟩
    clear hd3
    refine hK.out _ _ (HC.out _ (drz (E13.trans (E6.trans E3)))) (fun hHeld => ?_)
    clear hK K
    try simp only [layz]
    refine rz1 4 (fun K hK => ?_)
    go_simp
    go_at_call 149
    refine Calls.mono (C_spec_l1Bytes _ B ka (cuz hc3) b_34) ?_
    rintro e w4 ⟨hd4, hc4, A4, b, c4, fp4, rfl, how4, hfr4, hlb⟩
    obtain ⟨E4, z4⟩ := ez w3 hd4
    subst hlb
    obtain ⟨lb, hlb4⟩ : ∃ lb, lb = w3.heap.size := ⟨_, rfl⟩
    have HB := Lib.hid (show RdI (.sl .byte) lb w4.heap.size w4 _ b from oz how4 hfr4)
    clear how4 hfr4
    clear hd4
    refine hK.out _ _ (HC.out _ (drz (E13.trans (E6.trans (E3.trans E4))))) (fun hHeld => ?_)
    clear hK K
    try simp only [layz]
    refine rz1 7 (fun K hK => ?_)
    go_simp
    go_at_call 140
    refine Calls.mono (C_spec_l1Str _ B _ [[47, 107, 101, 121, 47, 97], [47, 107, 101, 121, 47, 98], [47, 97, 47, 107, 101, 121]] (cuz hc4) ((HL6.out.dr (B := B) (drz (E3.trans E4)) b_34).hide b_34) b_33 b_33) ?_
    rintro e w7 ⟨hd7, hc7, s, hs, rfl⟩
    obtain ⟨E7, z7⟩ := ez w4 hd7
    have hs3 := key3 hs
    have HS3 := Lib.hid hs3.1
    have hsl := hs3.2
    clear hs hs3
    clear hd7
    refine hK.out _ _ (HC.out _ (drz (E13.trans (E6.trans (E3.trans (E4.trans E7)))))) (fun hHeld => ?_)
    clear hK K
    try simp only [layz]
    refine rz1 8 (fun K hK => ?_)
    go_simp
    go_at_call 138
    refine Calls.mono (C_spec_l4Of _ s b_34) ?_
    rintro e w8 ⟨cs8, fp8, rfl, how8, hfr8, hb8⟩
    obtain ⟨E8, z8⟩ := ez w7 (Dr.of hb8 B)
    have hc8 : CurT w8 B := Cur.below (cuz hc7) hb8
    obtain ⟨A8, c8, rfl⟩ := Ty.ow_slv how8
    obtain ⟨lk, hlk⟩ : ∃ lk, lk = w7.heap.size := ⟨_, rfl⟩
    have HKN := Lib.hid (show RdI (.sl .str) lk w8.heap.size w8 _ (pnS s).1 from oz how8 hfr8)
    clear how8 hfr8
    generalize (pnS s).1 = kn at HKN HS3 ⊢
    clear hb8
    refine hK.out _ _ (HC.out _ (drz (E13.trans (E6.trans (E3.trans (E4.trans (E7.trans E8))))))) (fun hHeld => ?_)
    clear hK K
    try simp only [layz]
    refine rz1 10 (fun K hK => ?_)
    go_simp
    go_at_call 69
    refine Calls.mono (C_spec_l1Below _ B 60 (cuz hc8) b_33 b_33) ?_
    rintro e w10 ⟨hd10, hc10, x10, rfl, hx10, hy10⟩
    obtain ⟨E10, z10⟩ := ez w8 hd10
    have hv10 : IntKind.i64.wrap (40 + x10) = 40 + x10 := IntWalk.i64_in _ b_34
    clear hd10
    refine hK.out _ _ (HC.out _ (drz (E13.trans (E6.trans (E3.trans (E4.trans (E7.trans (E8.trans E10)))))))) (fun hHeld => ?_)
    clear hK K
    try simp only [layz]
    refine tkz2 11 12 ?_
    try simp only [layz]
    refine rz1 14 (fun K hK => ?_)
    have hG : Blk w10 (WT.heap.size) 46 #[.slice none 0 0, .slice none 0 0, .slice none 0 0, .int .i64 0, .int .i64 0] := Dr.blk (E6.trans (E3.trans (E4.trans (E7.trans (E8.trans E10))))) hG13 b_34
    obtain ⟨k0, k1, k2, k3, k4, j0, j1, j2, j3, j4⟩ := blk5 hG
    have zG := hG.lt
    go_simp
    refine abs_world (fun w14 hw14 => ?_)
    obtain ⟨hG14, hK14, hs14, hc14, F14⟩ := stored5 (v0 := .slice An (List.length m) cn) (v1 := .slice A4 (List.length b) c4) (v2 := .slice A8 (List.length kn) c8) (v3 := .int .i64 (40 + x10)) (v4 := .int .i64 0) hG b_25 (B := B) b_34 hc10
    have F14 := F14 WT b_34 (E13.trans (E6.trans (E3.trans (E4.trans (E7.trans (E8.trans E10))))))
    have hM14 := HM.out.dr F14 b_34
    have hb14 := (HB.out.dr (E7.trans (E8.trans E10)) b_34).keep hs14 (fun q h1 h2 => hK14 q b_34)
    have hk14 := (HKN.out.dr E10 b_34).keep hs14 (fun q h1 h2 => hK14 q b_34)
    clear hw14 hK14 hG
    refine hK.out _ _ (HC.out _ F14) (fun hHeld => ?_)
    clear hK K
    try simp only [layz]
    refine wpAnyH_done b_31 ?_ _
    refine NoPanic.normal ?_
    have mm : w14.heap.size ≤ w14.heap.size := Nat.le_refl _
    have QY : RdI tData (w.heap.size + 1) w14.heap.size w14 [.slice An (List.length m) cn, .slice A4 (List.length b) c4, .slice A8 (List.length kn) c8, .int .i64 (40 + x10), .int .i64 0] (m, b, kn, 40 + x10, 0) := RdI.data (x := (m, b, kn, 40 + x10, 0)) (hM14.mono (Nat.le_refl _) hM14.1 mm) (hb14.mono b_34 hb14.1 mm) (hk14.mono b_34 hk14.1 mm) (show -9223372036854775808 ≤ 40 + x10 ∧ 40 + x10 ≤ 9223372036854775807 by omega) (show -9223372036854775808 ≤ (0 : Int) ∧ (0 : Int) ≤ 9223372036854775807 by decide)
    go_wp2_with fail
    go_meet
    exact ⟨WT.heap.size, An, cn, A4, c4, A8, c8, (m, b, kn, 40 + x10, 0), rfl, hG14, QY, ⟨okAny.of _ hV2, (show List.length b ≤ 61 by omega), HS3.out⟩, hc14, F14, by omega, by omega⟩
 obtain ⟨WX, hWX⟩ : ∃ V, V = wc := ⟨_, rfl⟩
 subst hWX
 obtain ⟨g, A0, d0, A1, d1, A2, d2, y, rfl, hG, QY, hok, hcX, FX, hBg, hgw⟩ := hcut
 have DX := DT.trans FX
 have hOX := Dr.blk FX HO b_34
 have hbk := thing_bulk hok
 have zG := hG.lt
 have zX := FX.size
 clear HC HM HO HN CT DT ET
 have HG : Hid (∀ V, Dr B WX V → V.cell? ⟨g, 0, none⟩ = some (.slice A0 (List.length y.1) d0) ∧ V.cell? ⟨g, 1, none⟩ = some (.slice A1 (List.length y.2.1) d1) ∧ V.cell? ⟨g, 2, none⟩ = some (.slice A2 (List.length y.2.2.1) d2) ∧ V.cell? ⟨g, 3, none⟩ = some (.int .i64 y.2.2.2.1) ∧ V.cell? ⟨g, 4, none⟩ = some (.int .i64 y.2.2.2.2)) := fun V hV => ⟨(Dr.blk hV hG b_34).cell 0, (Dr.blk hV hG b_34).cell 1, (Dr.blk hV hG b_34).cell 2, (Dr.blk hV hG b_34).cell 3, (Dr.blk hV hG b_34).cell 4⟩
 go_wp2_with fail
 refine wp_region_noPanic ?_
 refine wp_region_held_drew (S := (fun W => W.cell? ⟨g, 0, none⟩ = some (.slice A0 (List.length y.1) d0) ∧ W.cell? ⟨g, 1, none⟩ = some (.slice A1 (List.length y.2.1) d1) ∧ W.cell? ⟨g, 2, none⟩ = some (.slice A2 (List.length y.2.2.1) d2) ∧ W.cell? ⟨g, 3, none⟩ = some (.int .i64 y.2.2.2.1) ∧ W.cell? ⟨g, 4, none⟩ = some (.int .i64 y.2.2.2.2))) b_31 ?_ (fun hHeld => ?_)
 ·exact HG.out _ b_3
 refine tkz2 0 2 ?_
 try simp only [layz]
 refine rz1 1 (fun K hK => ?_)
 go_simp
 go_at_call 126
 refine Calls.mono (C_spec_l8Secret _ B (cuz hcX)) ?_
 rintro e v1 ⟨hd1, hc1, k, rfl, hk0, hk1⟩
 obtain ⟨E1, z1⟩ := ez WX hd1
 clear hd1
 refine hK.out _ _ (HG.out _ (drz E1)) (fun hHeld => ?_)
 clear hK K
 try simp only [layz]
 refine rz1 3 (fun K hK => ?_)
 go_simp
 go_at_call 56
 refine Calls.mono (C_spec_SignDataB _ k _ y (QY.dr (B := B) (drz E1) b_34).rd ⟨by omega, by omega⟩ b_34) ?_
 rintro e v3 ⟨cs3, fp3, rfl, how3, hfr3, hb3⟩
 obtain ⟨E3, z3⟩ := ez v1 (Dr.of hb3 B)
 have hc3 : CurT v3 B := Cur.below (cuz hc1) hb3
 have hokR : okThing (f_SignData k y) := hok
 generalize f_SignData k y = r at how3 hokR ⊢
 obtain ⟨B0, f0, B1, f1, B2, f2, rfl⟩ := ow_Data how3
 have QR := RdI.of_ow how3 (lo := w.heap.size + 1) (hi := v3.heap.size) (fun q hq => ⟨by have := (hfr3.2 q hq).1; (try simp only [szz] at this); omega, (hfr3.2 q hq).2⟩) (Nat.le_refl _)
 have hO3 : Blk v3 w.heap.size 46 #[.slice none 0 0, .slice none 0 0, .slice none 0 0, .int .i64 0, .int .i64 0] := Dr.blk (E1.trans E3) hOX b_34
 have D3 := Lib.hid (show Dr B w v3 from DX.trans (E1.trans E3))
 clear how3 hfr3
 clear hb3
 refine hK.out _ _ (HG.out _ (drz (E1.trans E3))) (fun hHeld => ?_)
 clear hK K
 try simp only [layz]
 refine rz1 4 (fun K hK => ?_)
 obtain ⟨k0, k1, k2, k3, k4, j0, j1, j2, j3, j4⟩ := blk5 hO3
 have zO := hO3.lt
 go_simp
 refine abs_world (fun v4 hv4 => ?_)
 obtain ⟨hO4, hK4, hs4, C4, F4⟩ := stored5 (v0 := .slice B0 (List.length r.1) f0) (v1 := .slice B1 (List.length r.2.1) f1) (v2 := .slice B2 (List.length r.2.2.1) f2) (v3 := .int .i64 r.2.2.2.1) (v4 := .int .i64 r.2.2.2.2) hO3 (by first | exact .inl hv4 | exact .inr hv4) (B := B) b_34 hc3
 have D4 := Lib.hid (F4 w (Nat.le_refl _) D3.out)
 have Q4 := QR.keep hs4 (fun q h1 h2 => hK4 q b_34)
 have hGk : Blk v4 g 46 #[.slice A0 (List.length y.1) d0, .slice A1 (List.length y.2.1) d1, .slice A2 (List.length y.2.2.1) d2, .int .i64 y.2.2.2.1, .int .i64 y.2.2.2.2] := (hK4 g b_34).trans (Dr.blk (E1.trans E3) hG b_34)
 refine hK.out _ _ (⟨hGk.cell 0, hGk.cell 1, hGk.cell 2, hGk.cell 3, hGk.cell 4⟩) (fun hHeld => ?_)
 clear hK K
 try simp only [layz]
 refine wpAnyH_done b_31 ?_ _
 refine NoPanic.normal ?_
 obtain ⟨jO0, jO1, jO2, jO3, jO4, -, -, -, -, -, -⟩ := bk5 hO4
 go_wp2
 refine bodyPost_ret (v := .agg #[.slice B0 (List.length r.1) f0, .slice B1 (List.length r.2.1) f1, .slice B2 (List.length r.2.2.1) f2, .int .i64 r.2.2.2.1, .int .i64 r.2.2.2.2]) (by simp [results, Try.results118, go_sem, jO0, jO1, jO2, jO3, jO4]) rfl ?_
 exact ⟨D4.out, C4, _, r, rfl, Q4.mono b_34 Q4.1 (Nat.le_refl _), hokR⟩
end Go.Proofs.Ytldgbnlcnlfmeaa
