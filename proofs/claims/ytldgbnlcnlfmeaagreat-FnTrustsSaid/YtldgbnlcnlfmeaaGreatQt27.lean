/- Texts of this claim, merged by a program: Dis Smg Tpl Snm Lat. -/
import Derived.Test.YtldgbnlcnlfmeaaGreatQtP
import Derived.Test.YtldgbnlcnlfmeaaGreatQt26
import Derived.Deep.RegionHeld3
import Derived.Test.YtldgbnlcnlfmeaaGreatQt2
import Derived.Test.YtldgbnlcnlfmeaaGreatQt1
import Derived.Test.YtldgbnlcnlfmeaaGreatQt6
import Derived.BigQuiet
import Derived.Test.YtldgbnlcnlfmeaaGreatQt15
namespace Go.Proofs.YtldgbnlcnlfmeaaGreat
open Go.RowKit
set_option linter.unusedVariables false
set_option linter.unusedSimpArgs false
theorem mem_til2 {s : Int} (h : s ∈ ([50, -1] : List Int)) : -1 ≤ s ∧ s ≤ 50 := by
 simp at h; rcases h with rfl | rfl <;> decide
set_option maxRecDepth 100000 in
set_option maxHeartbeats 4000000 in
theorem C_spec_DrawIssueCertificate (w : World) (v : Value) (b : List UInt8) (h : (Ty.sl .byte).rd w [v] b) :
  Calls Tryz.prog 13 #[v] w (fun e w' => ∃ A l c A1 n1 c1 A2 n2 c2 t, e = .returned (.tuple #[.slice A (List.length l) c, .agg #[.slice A1 (List.length n1) c1], .agg #[.slice A2 (List.length n2) c2], .int .i64 t]) ∧ (Ty.sl tKey).rd w' [.slice A (List.length l) c] l ∧ (Ty.sl .str).rd w' [.slice A1 (List.length n1) c1] n1 ∧ (Ty.sl .str).rd w' [.slice A2 (List.length n2) c2] n2 ∧ okKeys l ∧ okAny n1 ∧ okAny n2 ∧ (-1 ≤ t ∧ t ≤ 50) ∧ Below w.heap.size w w') := by
 obtain ⟨Ac, cc, rfl, _, _, _⟩ := Ty.rd_sl h
 go_enter Tryz.func13, Tryz.ntmps13
 go_wp2_with fail
 refine Calls.mono (C_spec_l1New _ _ b (Ty.rd_below b_10 h)) ?_
 rintro e w1 ⟨rfl, hb1, hc1⟩
 simp only [World.size_alloc] at hc1 ⊢
 have z1 := hc1.lt
 have hO1 : Blk w1 w.heap.size 32 #[.slice none 0 0] := ((Blk.new w _ _).alloc _).below hb1 b_30
 have hP1 : Blk w1 (w.heap.size + 1) 32 #[.slice none 0 0] := (by have := Blk.new (w.alloc (.cells #[.slice none 0 0] 32)) 32 #[.slice none 0 0]; rw [World.size_alloc] at this; exact this.below hb1 b_30)
 have D1 : Dr (w.heap.size + 1 + 1) w w1 := Dr.of (bel_trans b_10 hb1) _
 clear hb1
 go_wp2_with fail
 refine Calls.mono (C_spec_l9Any _ (w.heap.size + 1 + 1) b_14) ?_
 rintro e w2 ⟨hd2, hc2, A, l, c, rfl, hQ2, hokl⟩
 have D2 : Dr (w.heap.size + 1 + 1) w w2 := D1.trans hd2
 have z2 := hd2.size
 have HOKL := Lib.hid hokl
 have hO2 := Dr.blk hd2 hO1 b_37
 have hP2 := Dr.blk hd2 hP1 b_37
 clear hd2 hO1 hP1 D1 hc1 hokl
 go_wp2_with fail
 refine Calls.mono (C_spec_l1Str _ (w.heap.size + 1 + 1) _ [[47, 107, 101, 121, 47, 97], [47, 107, 101, 121, 47, 98], [47, 122, 122]] b_14 b_11 b_36 b_36) ?_
 rintro e w3 ⟨hd3, hc3, s, hs, rfl⟩
 have hs3 := sgn3 hs
 have hsl := hs3.2
 have hokn := Lib.hid hs3.1
 have E3 : Dr (w.heap.size + 1 + 1) w2 w3 := b_5
 have z3 := E3.size
 have D3 : Dr (w.heap.size + 1 + 1) w w3 := D2.trans E3
 have hO3 := Dr.blk E3 hO2 b_37
 have hP3 := Dr.blk E3 hP2 b_37
 have Q3 := hQ2.dr E3 b_37
 clear hd3 E3 D2 hO2 hP2 hQ2 hc2 hs hs3
 go_wp2_with fail
 refine Calls.mono (C_spec_l4Of _ s b_37) ?_
 rintro e w4 ⟨cs4, fp4, rfl, how4, hfr4, hb4⟩
 obtain ⟨A1, c1, rfl⟩ := Ty.ow_slv how4
 have z4 := hb4.size
 have D4 : Dr (w.heap.size + 1 + 1) w w4 := D3.then_ hb4
 have hc4 : CurT w4 (w.heap.size + 1 + 1) := Cur.below hc3 hb4
 have hO4 := hO3.below hb4 b_37
 have hP4 := hP3.below hb4 b_37
 have Q4 := Q3.below hb4
 have M4 := RdI.of_owF how4 hfr4 (Nat.le_refl _)
 clear D3 hO3 hP3 Q3 how4 hfr4 hb4 hc3
 generalize (pnS s).1 = n1 at M4 hokn ⊢
 go_wp2_with fail
 obtain ⟨WT, hWT⟩ : ∃ WT, WT = w4.alloc (.cells #[.slice A1 (List.length n1) c1] 32) := ⟨_, rfl⟩
 have ET : Dr (w.heap.size + 1 + 1) w4 WT := by rw [hWT]; exact new_dr _ _ _
 have CT : CurT WT (w.heap.size + 1 + 1) := by rw [hWT]; exact hc4.alloc _
 have hGT : Blk WT w4.heap.size 32 #[.slice A1 (List.length n1) c1] := by rw [hWT]; exact Blk.new _ _ _
 have DT_ := Lib.hid (D4.trans ET)
 have hOT := Dr.blk ET hO4 b_37
 have hPT := Dr.blk ET hP4 b_37
 have QT := Q4.dr ET b_37
 have MT := M4.dr ET b_37
 have zT := hGT.lt
 have HC : Hid (∀ V, Dr (w.heap.size + 1 + 1) WT V → V.cell? ⟨w4.heap.size, 0, none⟩ = some (.slice A1 (List.length n1) c1)) := fun V hV => (Dr.blk hV hGT b_37).c1
 clear hO4 hP4 Q4 M4 hc4 ET D4
 rw [← hWT]
 clear hWT
 refine wp_region_noPanic ?_
 refine wp_region_held_drew (S := (fun V => V.cell? ⟨w4.heap.size, 0, none⟩ = some (.slice A1 (List.length n1) c1))) b_35 ?_ (fun hHeld => ?_)
 ·exact HC.out _ (Dr.drew (Dr.refl _ _))
 refine tkz4 0 1 2 6 ?_
 try simp only [layz]
 refine rz2 3 7 (fun K hK => ?_) (fun K hK => ?_)
 ·go_simp
  refine abs_world (fun w5 hw5 => ?_)
  obtain ⟨E5, hc5, z5⟩ := nz hw5 CT
  have HL5 := Lib.hid (show RdI (.sl .str) WT.heap.size (WT.heap.size + 1) w5 [.slice (some ⟨WT.heap.size, 0, none⟩) 3 3] [[47, 107, 101, 121, 47, 97], [47, 107, 101, 121, 47, 98], [47, 122, 122]] by rw [hw5]; exact b_6)
  clear hw5
  refine hK.out _ _ (HC.out _ (drz E5)) (fun hHeld => ?_)
  clear hK K
  try simp only [layz]
  refine rz2 4 7 (fun K hK => ?_) (fun K hK => ?_)
  ·go_simp
   go_at_call 63
   refine Calls.mono (C_spec_l1Str _ (w.heap.size + 1 + 1) _ [[47, 107, 101, 121, 47, 97], [47, 107, 101, 121, 47, 98], [47, 122, 122]] (cuz hc5) ((HL5.out.dr (B := w.heap.size + 1 + 1) (drz (Dr.refl (w.heap.size + 1 + 1) w5)) b_37).hide b_37) b_36 b_36) ?_
   rintro e w6 ⟨hd6, hc6, s2, hs, rfl⟩
   obtain ⟨E6, z6⟩ := ez w5 hd6
   have hs3 := sgn3 hs
   have hsl2 := hs3.2
   have hok2 := Lib.hid hs3.1
   clear hs hs3
   clear hd6
   refine hK.out _ _ (HC.out _ (drz (E5.trans E6))) (fun hHeld => ?_)
   clear hK K
   try simp only [layz]
   refine rz2 5 7 (fun K hK => ?_) (fun K hK => ?_)
   ·go_simp
    go_at_call 62
    refine Calls.mono (C_spec_l4Of _ s2 b_37) ?_
    rintro e w7 ⟨cs7, fp7, rfl, how7, hfr7, hb7⟩
    obtain ⟨E7, z7⟩ := ez w6 (Dr.of hb7 (w.heap.size + 1 + 1))
    have hc7 : CurT w7 (w.heap.size + 1 + 1) := Cur.below (cuz hc6) hb7
    obtain ⟨A2, c2, rfl⟩ := Ty.ow_slv how7
    have Q7 := RdI.of_owF how7 hfr7 (Nat.le_refl _)
    (try simp only [szz] at Q7)
    generalize (pnS s2).1 = n2 at Q7 hok2 ⊢
    clear how7 hfr7
    clear hb7
    refine hK.out _ _ (HC.out _ (drz (E5.trans (E6.trans E7)))) (fun hHeld => ?_)
    clear hK K
    try simp only [layz]
    refine rz1 7 (fun K hK => ?_)
    go_simp
    refine abs_world (fun w8 hw8 => ?_)
    obtain ⟨E8, hc8, z8⟩ := nz hw8 hc7
    have HL8 := Lib.hid (show RdI (.sl .int) w7.heap.size (w7.heap.size + 1) w8 [.slice (some ⟨w7.heap.size, 0, none⟩) 2 2] [50, -1] by rw [hw8]; exact b_7)
    clear hw8
    refine hK.out _ _ (HC.out _ (drz (E5.trans (E6.trans (E7.trans E8))))) (fun hHeld => ?_)
    clear hK K
    try simp only [layz]
    refine rz1 8 (fun K hK => ?_)
    go_simp
    go_at_call 64
    refine Calls.mono (C_spec_l1Int _ (w.heap.size + 1 + 1) _ [50, -1] (cuz hc8) ((HL8.out.dr (B := w.heap.size + 1 + 1) (drz (Dr.refl (w.heap.size + 1 + 1) w8)) b_37).hide b_37) b_36 b_36) ?_
    rintro e w9 ⟨hd9, hc9, t, ht, rfl⟩
    obtain ⟨E9, z9⟩ := ez w8 hd9
    have htb := mem_til2 ht
    clear ht
    clear hd9
    refine hK.out _ _ (HC.out _ (drz (E5.trans (E6.trans (E7.trans (E8.trans E9)))))) (fun hHeld => ?_)
    clear hK K
    try simp only [layz]
    refine tkz 9 ?_
    try simp only [layz]
    refine rz1 10 (fun K hK => ?_)
    have hO9 := Dr.blk (E5.trans (E6.trans (E7.trans (E8.trans E9)))) hOT b_37
    have hP9 := Dr.blk (E5.trans (E6.trans (E7.trans (E8.trans E9)))) hPT b_37
    have hG9 := Dr.blk (E5.trans (E6.trans (E7.trans (E8.trans E9)))) hGT b_37
    have Q9 := QT.dr (E5.trans (E6.trans (E7.trans (E8.trans E9)))) b_37
    have M9 := MT.dr (E5.trans (E6.trans (E7.trans (E8.trans E9)))) b_37
    have N9 := Q7.dr (E8.trans E9) b_37
    have D9 := Lib.hid (DT_.out.trans (E5.trans (E6.trans (E7.trans (E8.trans E9)))))
    have kk := hO9.c1
    have ff := hO9.f1 (i := 0)
    have zz := hO9.lt
    go_simp
    refine abs_world (fun wO hw => ?_)
    obtain ⟨hOO, hK, hs, F⟩ := stored1n (v := .slice A1 (List.length n1) c1) hO9 (by first | exact .inl hw | exact .inr hw)
    have DO := Lib.hid (F w (w.heap.size + 1 + 1) (Nat.le_refl _) D9.out)
    have hPO : Blk wO (w.heap.size + 1) 32 #[.slice none 0 0] := (hK _ b_37).trans hP9
    have hGO : Blk wO w4.heap.size 32 #[.slice A1 (List.length n1) c1] := (hK _ b_37).trans hG9
    have QO := Q9.keep hs (fun q h1 h2 => hK q b_37)
    have MO := M9.keep hs (fun q h1 h2 => hK q b_37)
    have NO := N9.keep hs (fun q h1 h2 => hK q b_37)
    clear hw hK F kk ff zz hs
    refine hK.out _ _ (hGO.c1) (fun hHeld => ?_)
    clear hK K
    try simp only [layz]
    refine rz1 11 (fun K hK => ?_)
    have kk := hPO.c1
    have ff := hPO.f1 (i := 0)
    have zz := hPO.lt
    go_simp
    refine abs_world (fun wP hw => ?_)
    obtain ⟨hPP, hK, hs, F⟩ := stored1n (v := .slice A2 (List.length n2) c2) hPO (by first | exact .inl hw | exact .inr hw)
    have DP := Lib.hid (F w (w.heap.size + 1 + 1) b_37 DO.out)
    have hOP : Blk wP w.heap.size 32 #[.slice A1 (List.length n1) c1] := (hK _ b_37).trans hOO
    have hGP : Blk wP w4.heap.size 32 #[.slice A1 (List.length n1) c1] := (hK _ b_37).trans hGO
    have QP := QO.keep hs (fun q h1 h2 => hK q b_37)
    have MP := MO.keep hs (fun q h1 h2 => hK q b_37)
    have NP := NO.keep hs (fun q h1 h2 => hK q b_37)
    clear hw hK F kk ff zz hs
    refine hK.out _ _ (hGP.c1) (fun hHeld => ?_)
    clear hK K
    try simp only [layz]
    refine tkz 12 ?_
    try simp only [layz]
    refine wpAnyH_done b_35 ?_ _
    refine NoPanic.normal ?_
    have oP := hOP.c1
    have pP := hPP.c1
    go_wp2
    refine bodyPost_ret (v := .tuple #[.slice A (List.length l) c, .agg #[.slice A1 (List.length n1) c1], .agg #[.slice A2 (List.length n2) c2], .int .i64 t]) (by simp [results, Tryz.results13, go_sem, oP, pP]) rfl ?_
    exact ⟨_, l, _, _, n1, _, _, n2, _, t, rfl, QP.rd, MP.rd, NP.rd, HOKL.out, hokn.out, hok2.out, htb, Dr.below DP.out b_37 (Nat.le_refl _)⟩
   ·go_simp
    refine abs_world (fun w8 hw8 => ?_)
    obtain ⟨E8, hc8, z8⟩ := nz hw8 hc6
    have HL8 := Lib.hid (show RdI (.sl .int) w6.heap.size (w6.heap.size + 1) w8 [.slice (some ⟨w6.heap.size, 0, none⟩) 2 2] [50, -1] by rw [hw8]; exact b_7)
    clear hw8
    refine hK.out _ _ (HC.out _ (drz (E5.trans (E6.trans E8)))) (fun hHeld => ?_)
    clear hK K
    try simp only [layz]
    refine rz1 5 (fun K hK => ?_)
    go_simp
    go_at_call 62
    refine Calls.mono (C_spec_l4Of _ s2 b_37) ?_
    rintro e w7 ⟨cs7, fp7, rfl, how7, hfr7, hb7⟩
    obtain ⟨E7, z7⟩ := ez w8 (Dr.of hb7 (w.heap.size + 1 + 1))
    have hc7 : CurT w7 (w.heap.size + 1 + 1) := Cur.below (cuz hc8) hb7
    obtain ⟨A2, c2, rfl⟩ := Ty.ow_slv how7
    have Q7 := RdI.of_owF how7 hfr7 (Nat.le_refl _)
    (try simp only [szz] at Q7)
    generalize (pnS s2).1 = n2 at Q7 hok2 ⊢
    clear how7 hfr7
    clear hb7
    refine hK.out _ _ (HC.out _ (drz (E5.trans (E6.trans (E8.trans E7))))) (fun hHeld => ?_)
    clear hK K
    try simp only [layz]
    refine rz1 8 (fun K hK => ?_)
    go_simp
    go_at_call 64
    refine Calls.mono (C_spec_l1Int _ (w.heap.size + 1 + 1) _ [50, -1] (cuz hc7) ((HL8.out.dr (B := w.heap.size + 1 + 1) (drz E7) b_37).hide b_37) b_36 b_36) ?_
    rintro e w9 ⟨hd9, hc9, t, ht, rfl⟩
    obtain ⟨E9, z9⟩ := ez w7 hd9
    have htb := mem_til2 ht
    clear ht
    clear hd9
    refine hK.out _ _ (HC.out _ (drz (E5.trans (E6.trans (E8.trans (E7.trans E9)))))) (fun hHeld => ?_)
    clear hK K
    try simp only [layz]
    refine tkz 9 ?_
    try simp only [layz]
    refine rz1 10 (fun K hK => ?_)
    have hO9 := Dr.blk (E5.trans (E6.trans (E8.trans (E7.trans E9)))) hOT b_37
    have hP9 := Dr.blk (E5.trans (E6.trans (E8.trans (E7.trans E9)))) hPT b_37
    have hG9 := Dr.blk (E5.trans (E6.trans (E8.trans (E7.trans E9)))) hGT b_37
    have Q9 := QT.dr (E5.trans (E6.trans (E8.trans (E7.trans E9)))) b_37
    have M9 := MT.dr (E5.trans (E6.trans (E8.trans (E7.trans E9)))) b_37
    have N9 := Q7.dr E9 b_37
    have D9 := Lib.hid (DT_.out.trans (E5.trans (E6.trans (E8.trans (E7.trans E9)))))
    have kk := hO9.c1
    have ff := hO9.f1 (i := 0)
    have zz := hO9.lt
    go_simp
    refine abs_world (fun wO hw => ?_)
    obtain ⟨hOO, hK, hs, F⟩ := stored1n (v := .slice A1 (List.length n1) c1) hO9 (by first | exact .inl hw | exact .inr hw)
    have DO := Lib.hid (F w (w.heap.size + 1 + 1) (Nat.le_refl _) D9.out)
    have hPO : Blk wO (w.heap.size + 1) 32 #[.slice none 0 0] := (hK _ b_37).trans hP9
    have hGO : Blk wO w4.heap.size 32 #[.slice A1 (List.length n1) c1] := (hK _ b_37).trans hG9
    have QO := Q9.keep hs (fun q h1 h2 => hK q b_37)
    have MO := M9.keep hs (fun q h1 h2 => hK q b_37)
    have NO := N9.keep hs (fun q h1 h2 => hK q b_37)
    clear hw hK F kk ff zz hs
    refine hK.out _ _ (hGO.c1) (fun hHeld => ?_)
    clear hK K
    try simp only [layz]
    refine rz1 11 (fun K hK => ?_)
    have kk := hPO.c1
    have ff := hPO.f1 (i := 0)
    have zz := hPO.lt
    go_simp
    refine abs_world (fun wP hw => ?_)
    obtain ⟨hPP, hK, hs, F⟩ := stored1n (v := .slice A2 (List.length n2) c2) hPO (by first | exact .inl hw | exact .inr hw)
    have DP := Lib.hid (F w (w.heap.size + 1 + 1) b_37 DO.out)
    have hOP : Blk wP w.heap.size 32 #[.slice A1 (List.length n1) c1] := (hK _ b_37).trans hOO
    have hGP : Blk wP w4.heap.size 32 #[.slice A1 (List.length n1) c1] := (hK _ b_37).trans hGO
    have QP := QO.keep hs (fun q h1 h2 => hK q b_37)
    have MP := MO.keep hs (fun q h1 h2 => hK q b_37)
    have NP := NO.keep hs (fun q h1 h2 => hK q b_37)
    clear hw hK F kk ff zz hs
    refine hK.out _ _ (hGP.c1) (fun hHeld => ?_)
    clear hK K
    try simp only [layz]
    refine tkz 12 ?_
    try simp only [layz]
    refine wpAnyH_done b_35 ?_ _
    refine NoPanic.normal ?_
    have oP := hOP.c1
    have pP := hPP.c1
    go_wp2
    refine bodyPost_ret (v := .tuple #[.slice A (List.length l) c, .agg #[.slice A1 (List.length n1) c1], .agg #[.slice A2 (List.length n2) c2], .int .i64 t]) (by simp [results, Tryz.results13, go_sem, oP, pP]) rfl ?_
    exact ⟨_, l, _, _, n1, _, _, n2, _, t, rfl, QP.rd, MP.rd, NP.rd, HOKL.out, hokn.out, hok2.out, htb, Dr.below DP.out b_37 (Nat.le_refl _)⟩
  ·go_simp
   refine abs_world (fun w8 hw8 => ?_)
   obtain ⟨E8, hc8, z8⟩ := nz hw8 hc5
   have HL8 := Lib.hid (show RdI (.sl .int) w5.heap.size (w5.heap.size + 1) w8 [.slice (some ⟨w5.heap.size, 0, none⟩) 2 2] [50, -1] by rw [hw8]; exact b_7)
   clear hw8
   refine hK.out _ _ (HC.out _ (drz (E5.trans E8))) (fun hHeld => ?_)
   clear hK K
   try simp only [layz]
   refine rz1 4 (fun K hK => ?_)
   go_simp
   go_at_call 63
   refine Calls.mono (C_spec_l1Str _ (w.heap.size + 1 + 1) _ [[47, 107, 101, 121, 47, 97], [47, 107, 101, 121, 47, 98], [47, 122, 122]] (cuz hc8) ((HL5.out.dr (B := w.heap.size + 1 + 1) (drz E8) b_37).hide b_37) b_36 b_36) ?_
   rintro e w6 ⟨hd6, hc6, s2, hs, rfl⟩
   obtain ⟨E6, z6⟩ := ez w8 hd6
   have hs3 := sgn3 hs
   have hsl2 := hs3.2
   have hok2 := Lib.hid hs3.1
   clear hs hs3
   clear hd6
   refine hK.out _ _ (HC.out _ (drz (E5.trans (E8.trans E6)))) (fun hHeld => ?_)
   clear hK K
   try simp only [layz]
   refine rz1 5 (fun K hK => ?_)
   go_simp
   go_at_call 62
   refine Calls.mono (C_spec_l4Of _ s2 b_37) ?_
   rintro e w7 ⟨cs7, fp7, rfl, how7, hfr7, hb7⟩
   obtain ⟨E7, z7⟩ := ez w6 (Dr.of hb7 (w.heap.size + 1 + 1))
   have hc7 : CurT w7 (w.heap.size + 1 + 1) := Cur.below (cuz hc6) hb7
   obtain ⟨A2, c2, rfl⟩ := Ty.ow_slv how7
   have Q7 := RdI.of_owF how7 hfr7 (Nat.le_refl _)
   (try simp only [szz] at Q7)
   generalize (pnS s2).1 = n2 at Q7 hok2 ⊢
   clear how7 hfr7
   clear hb7
   refine hK.out _ _ (HC.out _ (drz (E5.trans (E8.trans (E6.trans E7))))) (fun hHeld => ?_)
   clear hK K
   try simp only [layz]
   refine rz1 8 (fun K hK => ?_)
   go_simp
   go_at_call 64
   refine Calls.mono (C_spec_l1Int _ (w.heap.size + 1 + 1) _ [50, -1] (cuz hc7) ((HL8.out.dr (B := w.heap.size + 1 + 1) (drz (E6.trans E7)) b_37).hide b_37) b_36 b_36) ?_
   rintro e w9 ⟨hd9, hc9, t, ht, rfl⟩
   obtain ⟨E9, z9⟩ := ez w7 hd9
   have htb := mem_til2 ht
   clear ht
   clear hd9
   refine hK.out _ _ (HC.out _ (drz (E5.trans (E8.trans (E6.trans (E7.trans E9)))))) (fun hHeld => ?_)
   clear hK K
   try simp only [layz]
   refine tkz 9 ?_
   try simp only [layz]
   refine rz1 10 (fun K hK => ?_)
   have hO9 := Dr.blk (E5.trans (E8.trans (E6.trans (E7.trans E9)))) hOT b_37
   have hP9 := Dr.blk (E5.trans (E8.trans (E6.trans (E7.trans E9)))) hPT b_37
   have hG9 := Dr.blk (E5.trans (E8.trans (E6.trans (E7.trans E9)))) hGT b_37
   have Q9 := QT.dr (E5.trans (E8.trans (E6.trans (E7.trans E9)))) b_37
   have M9 := MT.dr (E5.trans (E8.trans (E6.trans (E7.trans E9)))) b_37
   have N9 := Q7.dr E9 b_37
   have D9 := Lib.hid (DT_.out.trans (E5.trans (E8.trans (E6.trans (E7.trans E9)))))
   have kk := hO9.c1
   have ff := hO9.f1 (i := 0)
   have zz := hO9.lt
   go_simp
   refine abs_world (fun wO hw => ?_)
   obtain ⟨hOO, hK, hs, F⟩ := stored1n (v := .slice A1 (List.length n1) c1) hO9 (by first | exact .inl hw | exact .inr hw)
   have DO := Lib.hid (F w (w.heap.size + 1 + 1) (Nat.le_refl _) D9.out)
   have hPO : Blk wO (w.heap.size + 1) 32 #[.slice none 0 0] := (hK _ b_37).trans hP9
   have hGO : Blk wO w4.heap.size 32 #[.slice A1 (List.length n1) c1] := (hK _ b_37).trans hG9
   have QO := Q9.keep hs (fun q h1 h2 => hK q b_37)
   have MO := M9.keep hs (fun q h1 h2 => hK q b_37)
   have NO := N9.keep hs (fun q h1 h2 => hK q b_37)
   clear hw hK F kk ff zz hs
   refine hK.out _ _ (hGO.c1) (fun hHeld => ?_)
   clear hK K
   try simp only [layz]
   refine rz1 11 (fun K hK => ?_)
   have kk := hPO.c1
   have ff := hPO.f1 (i := 0)
   have zz := hPO.lt
   go_simp
   refine abs_world (fun wP hw => ?_)
   obtain ⟨hPP, hK, hs, F⟩ := stored1n (v := .slice A2 (List.length n2) c2) hPO (by first | exact .inl hw | exact .inr hw)
   have DP := Lib.hid (F w (w.heap.size + 1 + 1) b_37 DO.out)
   have hOP : Blk wP w.heap.size 32 #[.slice A1 (List.length n1) c1] := (hK _ b_37).trans hOO
   have hGP : Blk wP w4.heap.size 32 #[.slice A1 (List.length n1) c1] := (hK _ b_37).trans hGO
   have QP := QO.keep hs (fun q h1 h2 => hK q b_37)
   have MP := MO.keep hs (fun q h1 h2 => hK q b_37)
   have NP := NO.keep hs (fun q h1 h2 => hK q b_37)
   clear hw hK F kk ff zz hs
   refine hK.out _ _ (hGP.c1) (fun hHeld => ?_)
   clear hK K
   try simp only [layz]
   refine tkz 12 ?_
   try simp only [layz]
   refine wpAnyH_done b_35 ?_ _
   refine NoPanic.normal ?_
   have oP := hOP.c1
   have pP := hPP.c1
   go_wp2
   refine bodyPost_ret (v := .tuple #[.slice A (List.length l) c, .agg #[.slice A1 (List.length n1) c1], .agg #[.slice A2 (List.length n2) c2], .int .i64 t]) (by simp [results, Tryz.results13, go_sem, oP, pP]) rfl ?_
   exact ⟨_, l, _, _, n1, _, _, n2, _, t, rfl, QP.rd, MP.rd, NP.rd, HOKL.out, hokn.out, hok2.out, htb, Dr.below DP.out b_37 (Nat.le_refl _)⟩
 ·go_simp
  refine abs_world (fun w8 hw8 => ?_)
  obtain ⟨E8, hc8, z8⟩ := nz hw8 CT
  have HL8 := Lib.hid (show RdI (.sl .int) WT.heap.size (WT.heap.size + 1) w8 [.slice (some ⟨WT.heap.size, 0, none⟩) 2 2] [50, -1] by rw [hw8]; exact b_7)
  clear hw8
  refine hK.out _ _ (HC.out _ (drz E8)) (fun hHeld => ?_)
  clear hK K
  try simp only [layz]
  refine rz1 3 (fun K hK => ?_)
  go_simp
  refine abs_world (fun w5 hw5 => ?_)
  obtain ⟨E5, hc5, z5⟩ := nz hw5 hc8
  have HL5 := Lib.hid (show RdI (.sl .str) w8.heap.size (w8.heap.size + 1) w5 [.slice (some ⟨w8.heap.size, 0, none⟩) 3 3] [[47, 107, 101, 121, 47, 97], [47, 107, 101, 121, 47, 98], [47, 122, 122]] by rw [hw5]; exact b_6)
  clear hw5
  refine hK.out _ _ (HC.out _ (drz (E8.trans E5))) (fun hHeld => ?_)
  clear hK K
  try simp only [layz]
  refine rz1 4 (fun K hK => ?_)
  go_simp
  go_at_call 63
  refine Calls.mono (C_spec_l1Str _ (w.heap.size + 1 + 1) _ [[47, 107, 101, 121, 47, 97], [47, 107, 101, 121, 47, 98], [47, 122, 122]] (cuz hc5) ((HL5.out.dr (B := w.heap.size + 1 + 1) (drz (Dr.refl (w.heap.size + 1 + 1) w5)) b_37).hide b_37) b_36 b_36) ?_
  rintro e w6 ⟨hd6, hc6, s2, hs, rfl⟩
  obtain ⟨E6, z6⟩ := ez w5 hd6
  have hs3 := sgn3 hs
  have hsl2 := hs3.2
  have hok2 := Lib.hid hs3.1
  clear hs hs3
  clear hd6
  refine hK.out _ _ (HC.out _ (drz (E8.trans (E5.trans E6)))) (fun hHeld => ?_)
  clear hK K
  try simp only [layz]
  refine rz1 5 (fun K hK => ?_)
  go_simp
  go_at_call 62
  refine Calls.mono (C_spec_l4Of _ s2 b_37) ?_
  rintro e w7 ⟨cs7, fp7, rfl, how7, hfr7, hb7⟩
  obtain ⟨E7, z7⟩ := ez w6 (Dr.of hb7 (w.heap.size + 1 + 1))
  have hc7 : CurT w7 (w.heap.size + 1 + 1) := Cur.below (cuz hc6) hb7
  obtain ⟨A2, c2, rfl⟩ := Ty.ow_slv how7
  have Q7 := RdI.of_owF how7 hfr7 (Nat.le_refl _)
  (try simp only [szz] at Q7)
  generalize (pnS s2).1 = n2 at Q7 hok2 ⊢
  clear how7 hfr7
  clear hb7
  refine hK.out _ _ (HC.out _ (drz (E8.trans (E5.trans (E6.trans E7))))) (fun hHeld => ?_)
  clear hK K
  try simp only [layz]
  refine rz1 8 (fun K hK => ?_)
  go_simp
  go_at_call 64
  refine Calls.mono (C_spec_l1Int _ (w.heap.size + 1 + 1) _ [50, -1] (cuz hc7) ((HL8.out.dr (B := w.heap.size + 1 + 1) (drz (E5.trans (E6.trans E7))) b_37).hide b_37) b_36 b_36) ?_
  rintro e w9 ⟨hd9, hc9, t, ht, rfl⟩
  obtain ⟨E9, z9⟩ := ez w7 hd9
  have htb := mem_til2 ht
  clear ht
  clear hd9
  refine hK.out _ _ (HC.out _ (drz (E8.trans (E5.trans (E6.trans (E7.trans E9)))))) (fun hHeld => ?_)
  clear hK K
  try simp only [layz]
  refine tkz 9 ?_
  try simp only [layz]
  refine rz1 10 (fun K hK => ?_)
  have hO9 := Dr.blk (E8.trans (E5.trans (E6.trans (E7.trans E9)))) hOT b_37
  have hP9 := Dr.blk (E8.trans (E5.trans (E6.trans (E7.trans E9)))) hPT b_37
  have hG9 := Dr.blk (E8.trans (E5.trans (E6.trans (E7.trans E9)))) hGT b_37
  have Q9 := QT.dr (E8.trans (E5.trans (E6.trans (E7.trans E9)))) b_37
  have M9 := MT.dr (E8.trans (E5.trans (E6.trans (E7.trans E9)))) b_37
  have N9 := Q7.dr E9 b_37
  have D9 := Lib.hid (DT_.out.trans (E8.trans (E5.trans (E6.trans (E7.trans E9)))))
  have kk := hO9.c1
  have ff := hO9.f1 (i := 0)
  have zz := hO9.lt
  go_simp
  refine abs_world (fun wO hw => ?_)
  obtain ⟨hOO, hK, hs, F⟩ := stored1n (v := .slice A1 (List.length n1) c1) hO9 (by first | exact .inl hw | exact .inr hw)
  have DO := Lib.hid (F w (w.heap.size + 1 + 1) (Nat.le_refl _) D9.out)
  have hPO : Blk wO (w.heap.size + 1) 32 #[.slice none 0 0] := (hK _ b_37).trans hP9
  have hGO : Blk wO w4.heap.size 32 #[.slice A1 (List.length n1) c1] := (hK _ b_37).trans hG9
  have QO := Q9.keep hs (fun q h1 h2 => hK q b_37)
  have MO := M9.keep hs (fun q h1 h2 => hK q b_37)
  have NO := N9.keep hs (fun q h1 h2 => hK q b_37)
  clear hw hK F kk ff zz hs
  refine hK.out _ _ (hGO.c1) (fun hHeld => ?_)
  clear hK K
  try simp only [layz]
  refine rz1 11 (fun K hK => ?_)
  have kk := hPO.c1
  have ff := hPO.f1 (i := 0)
  have zz := hPO.lt
  go_simp
  refine abs_world (fun wP hw => ?_)
  obtain ⟨hPP, hK, hs, F⟩ := stored1n (v := .slice A2 (List.length n2) c2) hPO (by first | exact .inl hw | exact .inr hw)
  have DP := Lib.hid (F w (w.heap.size + 1 + 1) b_37 DO.out)
  have hOP : Blk wP w.heap.size 32 #[.slice A1 (List.length n1) c1] := (hK _ b_37).trans hOO
  have hGP : Blk wP w4.heap.size 32 #[.slice A1 (List.length n1) c1] := (hK _ b_37).trans hGO
  have QP := QO.keep hs (fun q h1 h2 => hK q b_37)
  have MP := MO.keep hs (fun q h1 h2 => hK q b_37)
  have NP := NO.keep hs (fun q h1 h2 => hK q b_37)
  clear hw hK F kk ff zz hs
  refine hK.out _ _ (hGP.c1) (fun hHeld => ?_)
  clear hK K
  try simp only [layz]
  refine tkz 12 ?_
  try simp only [layz]
  refine wpAnyH_done b_35 ?_ _
  refine NoPanic.normal ?_
  have oP := hOP.c1
  have pP := hPP.c1
  go_wp2
  refine bodyPost_ret (v := .tuple #[.slice A (List.length l) c, .agg #[.slice A1 (List.length n1) c1], .agg #[.slice A2 (List.length n2) c2], .int .i64 t]) (by simp [results, Tryz.results13, go_sem, oP, pP]) rfl ?_
  exact ⟨_, l, _, _, n1, _, _, n2, _, t, rfl, QP.rd, MP.rd, NP.rd, HOKL.out, hokn.out, hok2.out, htb, Dr.below DP.out b_37 (Nat.le_refl _)⟩
end Go.Proofs.YtldgbnlcnlfmeaaGreat
namespace Go.Proofs.YtldgbnlcnlfmeaaGreat
open Go.RowKit
set_option linter.unusedVariables false
set_option linter.unusedSimpArgs false
set_option maxHeartbeats 1000000 in
theorem C_laws_sameG (w : World) (v1 v2 : Value) (x y : List (UInt8)) (h1 : (Ty.sl .byte).rd w [v1] x) (h2 : (Ty.sl .byte).rd w [v2] y) :
  Calls Tryz.prog 26 #[v1, v2] w (RetB w (decide (x = y))) := by
 obtain ⟨A1, c1, rfl, hc1, hm1, hn1⟩ := Ty.rd_sl h1
 obtain ⟨A2, c2, rfl, hc2, hm2, hn2⟩ := Ty.rd_sl h2
 by_cases hl : x.length = y.length
 ·have q1 : ((x.length : Int) != y.length) = false := by simp [hl]
  have HL := Lib.hid hl
  clear hl
  go_enter Tryz.func26, Tryz.ntmps26
  go_wp2
  go_loopw [5] (fun i wr => ∃ k : Nat, k ≤ x.length ∧ i = .int .i64 k ∧ x.take k = y.take k ∧ Below w.heap.size w wr) (fun i _ => x.length - (intOf i).toNat)
  case atStart => exact ⟨0, by omega, rfl, rfl, Below.refl _ _⟩
  case round =>
   obtain ⟨k, hk, rfl, htk, hb⟩ := hrel
   have HT := Lib.hid htk
   clear htk
   by_cases hlt : k < x.length
   ·have hlt2 : k < y.length := by have := HL.out; omega
    obtain ⟨b1, o1, rfl, e1⟩ := Ty.rd_byte_at (Ty.rd_below hb h1) hlt
    obtain ⟨b2, o2, rfl, e2⟩ := Ty.rd_byte_at (Ty.rd_below hb h2) hlt2
    have i3 : (0 : Int) ≤ (k : Int) := by omega
    have i4 : (k : Int) < (List.length x : Int) := by omega
    have i5 : (k : Int) < (List.length y : Int) := by omega
    by_cases he : x[k] = y[k]
    ·have q2 : ((x[k].toNat : Int) != y[k].toNat) = false := by simp [he]
     have HE := Lib.hid he
     clear he
     go_wp2
     go_quiet (fail)
     go_wp2
     go_roundw
     case rel => exact ⟨k + 1, by omega, by go_num, by rw [List.take_succ_eq_append_getElem hlt, List.take_succ_eq_append_getElem hlt2, HT.out, HE.out], bel_drewN hb _⟩
     case measure => simp [intOf]; omega
    ·have q2 : ((x[k].toNat : Int) != y[k].toNat) = true := by rw [bne_iff_ne]; intro h; exact he (UInt8.toNat_inj.1 b_37)
     have HE : Hid (¬ x = y) := fun h => he (by subst h; rfl)
     clear he
     go_wp2
     go_quiet (fail)
     go_wp2
     go_ret
     exact ⟨ret_bool (by simp [HE.out]), bel_drewN hb _⟩
   ·have HE : Hid (x = y) := by
     have h1 := HT.out
     rwa [List.take_of_length_le b_37, List.take_of_length_le (by have := HL.out; omega)] at h1
    go_wp2
    go_ret
    exact ⟨ret_bool (by simp [HE.out]), hb⟩
 ·have q1 : ((x.length : Int) != y.length) = true := by rw [bne_iff_ne]; omega
  have HE : Hid (¬ x = y) := fun h => hl (congrArg List.length h)
  go_enter Tryz.func26, Tryz.ntmps26
  go_wp2
  go_ret
  exact ⟨ret_bool (by simp [HE.out]), Below.refl _ _⟩
set_option maxHeartbeats 1000000 in
theorem C_laws_sameTextsG (w : World) (v1 v2 : Value) (x y : List (List UInt8)) (h1 : (Ty.sl .str).rd w [v1] x) (h2 : (Ty.sl .str).rd w [v2] y) :
  Calls Tryz.prog 87 #[v1, v2] w (RetB w (decide (x = y))) := by
 obtain ⟨A1, c1, rfl, hc1, hm1, hn1⟩ := Ty.rd_sl h1
 obtain ⟨A2, c2, rfl, hc2, hm2, hn2⟩ := Ty.rd_sl h2
 by_cases hl : x.length = y.length
 ·have q1 : ((x.length : Int) != y.length) = false := by simp [hl]
  have HL := Lib.hid hl
  clear hl
  go_enter Tryz.func87, Tryz.ntmps87
  go_wp2
  go_loopw [5] (fun i wr => ∃ k : Nat, k ≤ x.length ∧ i = .int .i64 k ∧ x.take k = y.take k ∧ Below w.heap.size w wr) (fun i _ => x.length - (intOf i).toNat)
  case atStart => exact ⟨0, by omega, rfl, rfl, Below.refl _ _⟩
  case round =>
   obtain ⟨k, hk, rfl, htk, hb⟩ := hrel
   have HT := Lib.hid htk
   clear htk
   by_cases hlt : k < x.length
   ·have hlt2 : k < y.length := by have := HL.out; omega
    obtain ⟨b1, o1, rfl, e1, _⟩ := Ty.rd_str_at (Ty.rd_below hb h1) hlt
    obtain ⟨b2, o2, rfl, e2, _⟩ := Ty.rd_str_at (Ty.rd_below hb h2) hlt2
    have i3 : (0 : Int) ≤ (k : Int) := by omega
    have i4 : (k : Int) < (List.length x : Int) := by omega
    have i5 : (k : Int) < (List.length y : Int) := by omega
    by_cases he : x[k] = y[k]
    ·have q2 : (!x[k] == y[k]) = false := by simp [he]
     have HE := Lib.hid he
     clear he
     go_wp2
     go_quiet (fail)
     go_wp2
     go_roundw
     case rel => exact ⟨k + 1, by omega, by go_num, by rw [List.take_succ_eq_append_getElem hlt, List.take_succ_eq_append_getElem hlt2, HT.out, HE.out], bel_drewN hb _⟩
     case measure => simp [intOf]; omega
    ·have q2 : (!x[k] == y[k]) = true := by simp [he]
     have HE : Hid (¬ x = y) := fun h => he (by subst h; rfl)
     clear he
     go_wp2
     go_quiet (fail)
     go_wp2
     go_ret
     exact ⟨ret_bool (by simp [HE.out]), bel_drewN hb _⟩
   ·have HE : Hid (x = y) := by
     have h1 := HT.out
     rwa [List.take_of_length_le b_37, List.take_of_length_le (by have := HL.out; omega)] at h1
    go_wp2
    go_ret
    exact ⟨ret_bool (by simp [HE.out]), hb⟩
 ·have q1 : ((x.length : Int) != y.length) = true := by rw [bne_iff_ne]; omega
  have HE : Hid (¬ x = y) := fun h => hl (congrArg List.length h)
  go_enter Tryz.func87, Tryz.ntmps87
  go_wp2
  go_ret
  exact ⟨ret_bool (by simp [HE.out]), Below.refl _ _⟩
set_option maxHeartbeats 1000000 in
theorem C_laws_sameNameG (w : World) (cs1 cs2 : List Value) (x y : List (List UInt8)) (h1 : (Ty.sl .str).rd w cs1 x) (h2 : (Ty.sl .str).rd w cs2 y) :
  Calls Tryz.prog 29 #[.agg cs1.toArray, .agg cs2.toArray] w (RetB w (decide (x = y))) := by
 obtain ⟨A1, c1, rfl⟩ := Ty.rd_slv h1
 obtain ⟨A2, c2, rfl⟩ := Ty.rd_slv h2
 go_enter Tryz.func29, Tryz.ntmps29
 go_wp2_with fail
 refine (C_laws_sameTextsG _ _ _ _ _ (Ty.rd_below b_10 h1) (Ty.rd_below b_10 h2)).mono ?_
 rintro e w1 ⟨rfl, hb1⟩
 have hw1 : Below w.heap.size w w1 := bel_trans b_10 hb1
 go_wp2
 go_ret
 exact ⟨rfl, b_10⟩
set_option maxHeartbeats 1000000 in
theorem C_laws_sameThingG (w : World) (cs1 : List Value) (x : tData.D) (cs2 : List Value) (y : tData.D) (h1 : tData.rd w cs1 x) (h2 : tData.rd w cs2 y) (s0 : Ty.bulk tData x ≤ 1048576) (s1 : Ty.bulk tData y ≤ 1048576) :
  Calls Tryz.prog 25 #[.agg cs1.toArray, .agg cs2.toArray] w (RetB w (f_EqualData x y)) := by
 obtain ⟨A0, c0, A1, c1, A2, c2, rfl, g0, g1, g2, _, _⟩ := rd_Data h1
 obtain ⟨B0, d0, B1, d1, B2, d2, rfl, k0, k1, k2, _, _⟩ := rd_Data h2
 go_enter Tryz.func25, Tryz.ntmps25
 go_wp2_with fail
 refine (C_laws_sameNameG _ _ _ _ _ (Ty.rd_below b_10 g0) (Ty.rd_below b_10 k0)).mono ?_
 rintro e w1 ⟨rfl, hb1⟩
 have hw1 : Below w.heap.size w w1 := bel_trans b_10 hb1
 obtain ⟨hc1, hf1⟩ := bcell hb1
 have z10 : w.heap.size < w1.heap.size := by have := hb1.size; simp only [World.size_alloc] at this; omega
 have z11 : w.heap.size + 1 < w1.heap.size := by have := hb1.size; simp only [World.size_alloc] at this; omega
 cases hq0 : decide (x.1 = y.1)
 ·go_wp2
  go_ret
  exact ⟨ret_bool (by unfold f_EqualData; rw [hq0]; rfl), hw1⟩
 go_wp2_with fail
 refine (C_laws_sameG _ _ _ x.2.1 y.2.1 (Ty.rd_below b_10 g1) (Ty.rd_below b_10 k1)).mono ?_
 rintro e w2 ⟨rfl, hb2⟩
 have hw2 : Below w.heap.size w w2 := bel_trans b_10 hb2
 obtain ⟨hc2, hf2⟩ := bcell hb2
 have z20 : w.heap.size < w2.heap.size := by have := hb2.size; omega
 have z21 : w.heap.size + 1 < w2.heap.size := by have := hb2.size; omega
 cases hq1 : decide (x.2.1 = y.2.1)
 ·go_wp2
  go_ret
  exact ⟨ret_bool (by unfold f_EqualData; rw [hq0, hq1]; rfl), hw2⟩
 go_wp2_with fail
 refine (C_laws_sameNameG _ _ _ _ _ (Ty.rd_below b_10 g2) (Ty.rd_below b_10 k2)).mono ?_
 rintro e w3 ⟨rfl, hb3⟩
 have hw3 : Below w.heap.size w w3 := bel_trans b_10 hb3
 obtain ⟨hc3, hf3⟩ := bcell hb3
 cases hq2 : decide (x.2.2.1 = y.2.2.1)
 ·go_wp2
  go_ret
  exact ⟨ret_bool (by unfold f_EqualData; rw [hq0, hq1, hq2]; rfl), hw3⟩
 cases hq3 : (x.2.2.2.1 == y.2.2.2.1)
 ·go_wp2
  go_ret
  exact ⟨ret_bool (by unfold f_EqualData; rw [hq0, hq1, hq2, show decide (x.2.2.2.1 = y.2.2.2.1) = false from by simpa using hq3]; rfl), hw3⟩
 go_wp2
 go_ret
 exact ⟨ret_bool (by unfold f_EqualData; rw [hq0, hq1, hq2, show decide (x.2.2.2.1 = y.2.2.2.1) = true from by simpa using hq3]; (rw [Bool.eq_iff_iff]; simp)), hw3⟩
theorem tcGo_no {t : tTrustPolicy.D} {now : Int} : ∀ (n : Nat) (x : Ty.D tData) (c : List (List (List UInt8))), (tcGo t now n x c).2 = false → (tcGo t now n x c).1 = []
 | 0, _, _, _ => rfl
 | n + 1, x, c, h => by
  unfold tcGo at h ⊢
  split
  ·rfl
  ·rename_i h1
   rw [if_neg h1] at h
   split
   ·rename_i h2
    rw [if_pos h2] at h
    cases h
   ·rename_i h2
    rw [if_neg h2] at h
    cases hq : certAt t x.2.2.1 now with
    | none => rfl
    | some y => rw [hq] at h; exact tcGo_no n y _ h
theorem tcGo_yes {t : tTrustPolicy.D} {now : Int} : ∀ (n : Nat) (x : Ty.D tData) (c : List (List (List UInt8))), (tcGo t now n x c).2 = true → ∃ d m a, (tcGo t now n x c).1 = c ++ x.2.2.1 :: d ∧ x.2.2.1 :: d = m ++ [a] ∧ f_IsAnchor t a = true ∧ d.length + 1 ≤ n ∧ tcOk t x = true
 | 0, _, _, h => by cases h
 | n + 1, x, c, h => by
  unfold tcGo at h ⊢
  split
  ·rename_i h1
   rw [if_pos h1] at h
   cases h
  ·rename_i h1
   rw [if_neg h1] at h
   have ht : tcOk t x = true := by simpa using h1
   split
   ·rename_i h2
    exact ⟨[], [], _, rfl, rfl, h2, by simp, ht⟩
   ·rename_i h2
    rw [if_neg h2] at h
    cases hq : certAt t x.2.2.1 now with
    | none => rw [hq] at h; cases h
    | some y =>
     rw [hq] at h
     obtain ⟨d, m, a, e1, e2, e3, e4, _⟩ := tcGo_yes n y _ h
     exact ⟨y.2.2.1 :: d, x.2.2.1 :: m, a, by show (tcGo t now n y (c ++ [x.2.2.1])).1 = _; rw [e1]; simp, by rw [e2]; rfl, e3, by simp; omega, ht⟩
theorem chain_no {t : tTrustPolicy.D} {x : Ty.D tData} {now : Int} (h : f1_TrustChain t x now = false) : f0_TrustChain t x now = [] ∧ f_IsTrusted t x now = false := ⟨tcGo_no 4 x [] h, by unfold f_IsTrusted; rw [h]; rfl⟩
theorem chain_yes {t : tTrustPolicy.D} {x : Ty.D tData} {now : Int} (h : f1_TrustChain t x now = true) : ∃ d m a, f0_TrustChain t x now = x.2.2.1 :: d ∧ f0_TrustChain t x now = m ++ [a] ∧ f_IsAnchor t a = true ∧ d.length + 1 ≤ 4 ∧ f_VerifySignature t.1 x = true ∧ f_Allowed t.2.1 x.1 x.2.2.1 = true := by
 obtain ⟨d, m, a, e1, e2, e3, e4, e5⟩ := tcGo_yes 4 x [] h
 have e6 : f_VerifySignature t.1 x = true ∧ f_Allowed t.2.1 x.1 x.2.2.1 = true := by unfold tcOk at e5; simpa using e5
 have e0 : f0_TrustChain t x now = x.2.2.1 :: d := e1
 exact ⟨d, m, a, e0, by rw [e0, e2], e3, e4, e6.1, e6.2⟩
theorem last_at {α : Type} {l m : List α} {a : α} {g : Nat} (e : l = m ++ [a]) (hg : l.length = g + 1) (h : g < l.length) : l[g] = a := by
 subst e
 have : g = m.length := by simp at hg; omega
 subst this
 simp
theorem anchor_bulk {t : tTrustPolicy.D} {a : List (List UInt8)} (s : Ty.bulk tTrustPolicy t ≤ 1048576) (h : f_IsAnchor t a = true) : Ty.bulk (.sl .str) a ≤ 1048576 := by
 unfold f_IsAnchor at h
 obtain ⟨b, hb, hn⟩ := List.any_eq_true.1 h
 unfold nameIs at hn
 simp only [decide_eq_true_eq] at hn
 subst hn
 obtain ⟨k, hk, rfl⟩ := List.getElem_of_mem hb
 exact Ty.bulk_at (trust_parts s).2.2.1 hk
theorem C_laws_sameNames (w : World) (v1 v2 : Value) (x : List (Ty.D (.sl .str))) (h1 : (Ty.sl (.sl .str)).rd w [v1] x) (h2 : (Ty.sl (.sl .str)).rd w [v2] x) :
  Calls Tryz.prog 16 #[v1, v2] w (RetB w true) := by
 obtain ⟨A1, c1, rfl, hc1, hm1, hn1⟩ := Ty.rd_sl h1
 obtain ⟨A2, c2, rfl, hc2, hm2, hn2⟩ := Ty.rd_sl h2
 have hne : ((x.length : Int) != x.length) = false := by simp
 go_enter Tryz.func16, Tryz.ntmps16
 go_wp2
 go_loopw [5] (fun i wr => ∃ k : Nat, k ≤ x.length ∧ i = .int .i64 k ∧ Below w.heap.size w wr) (fun i _ => x.length - (intOf i).toNat)
 case atStart => exact ⟨0, by omega, rfl, Below.refl _ _⟩
 case round =>
  obtain ⟨k, hk, rfl, hb⟩ := hrel
  by_cases hlt : k < x.length
  ·obtain ⟨b1, o1, ds1, rfl, hl1, hcell1, hrd1⟩ := Ty.rd_at (Ty.rd_below hb h1) hlt
   have sag0 := hrd1
   obtain ⟨Aa, ca, rfl⟩ := Ty.rd_slv hrd1
   have e0 : wr.cell? ⟨b1, o1 + k, none⟩ = some (.slice Aa (List.length x[k]) ca) := by simpa [Ty.sz] using hcell1 0 b_36
   clear hcell1 hl1
   obtain ⟨b2, o2, ds2, rfl, hl2, hcell2, hrd2⟩ := Ty.rd_at (Ty.rd_below hb h2) hlt
   have tbg0 := hrd2
   obtain ⟨Ab, cb, rfl⟩ := Ty.rd_slv hrd2
   have d0 : wr.cell? ⟨b2, o2 + k, none⟩ = some (.slice Ab (List.length x[k]) cb) := by simpa [Ty.sz] using hcell2 0 b_36
   clear hcell2 hl2
   have i3 : (0 : Int) ≤ (k : Int) := by omega
   have i4 : (k : Int) < (List.length x : Int) := by omega
   have z1 : b1 < wr.heap.size := World.block_lt_of_cell? _ _ e0
   have z2 : b2 < wr.heap.size := World.block_lt_of_cell? _ _ d0
   have HS : Hid (∀ W, Below wr.heap.size wr W → Below w.heap.size w W ∧ W.cell? ⟨b1, o1 + k, none⟩ = some (.slice Aa (List.length x[k]) ca) ∧ W.cell? ⟨b2, o2 + k, none⟩ = some (.slice Ab (List.length x[k]) cb)) := fun W hW =>
    ⟨bel_trans hb hW, (hW.cell (p := ⟨b1, _, none⟩) z1).trans e0, (hW.cell (p := ⟨b2, _, none⟩) z2).trans d0⟩
   go_wp2_with fail
   refine wp_region_noPanic ?_
   refine wp_region_held_drew (S := (fun W => Below w.heap.size w W ∧ W.cell? ⟨b1, o1 + k, none⟩ = some (.slice Aa (List.length x[k]) ca) ∧ W.cell? ⟨b2, o2 + k, none⟩ = some (.slice Ab (List.length x[k]) cb))) b_35 ?_ (fun hHeld => ?_)
   ·exact HS.out _ b_10
   refine tkz4 0 1 2 3 ?_
   try simp only [layz]
   refine tkz4 4 5 6 7 ?_
   try simp only [layz]
   refine rz1 8 (fun K hK => ?_)
   go_simp
   go_at_call 29
   refine (C_laws_sameNameG _ _ _ x[k] x[k] (Ty.rd_below b_10 sag0) (Ty.rd_below b_10 tbg0)).mono ?_
   rw [show decide (x[k] = x[k]) = true from by simp]
   rintro e w1 ⟨rfl, hb1⟩
   have hw1 : Below w.heap.size w w1 := bel_trans b_10 hb1
   have hv1 : Below wr.heap.size wr w1 := bel_trans b_10 hb1
   refine hK.out _ _ (HS.out _ hv1) (fun hHeld => ?_)
   clear hK K
   try simp only [layz]
   refine tkz 9 ?_
   try simp only [layz]
   refine wpAnyH_done b_35 ?_ _
   refine NoPanic.normal ?_
   go_wp2
   go_roundw
   case rel => exact ⟨k + 1, by omega, by go_num, hw1⟩
   case measure => simp [intOf]; omega
  ·go_wp2
   go_ret
   exact ⟨rfl, hb⟩
theorem C_laws_bigG (w : World) (A : Option Addr) (n c : Nat) : Calls Tryz.prog 6 #[.slice A n c] w (RetBP w (decide ((n : Int) > 1048576))) := by
 go_enter Tryz.func6, Tryz.ntmps6
 go_wp2
 go_ret
 first | exact ⟨rfl, rfl⟩ | exact ⟨rfl, Below.refl _ _⟩ | trace_state
end Go.Proofs.YtldgbnlcnlfmeaaGreat
