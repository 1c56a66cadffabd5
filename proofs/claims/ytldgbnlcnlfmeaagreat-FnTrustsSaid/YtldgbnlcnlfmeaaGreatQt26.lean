/- Texts of this claim, merged by a program: Dky Dtx Dsw. -/
import Derived.Test.YtldgbnlcnlfmeaaGreatQtP
import Derived.Test.YtldgbnlcnlfmeaaGreatQt24
import Derived.Deep.RegionHeld3
import Derived.Test.YtldgbnlcnlfmeaaGreatQt25
namespace Go.Proofs.YtldgbnlcnlfmeaaGreat
open Go.RowKit
set_option linter.unusedVariables false
set_option linter.unusedSimpArgs false
theorem stored5n {P W : World} {g : Nat} {t : TypeId} {a b c d e v0 v1 v2 v3 v4 : Value} (h : Blk P g t #[a, b, c, d, e]) (hw : W = (((((P.setCell ⟨g, 0, none⟩ v0).setCell ⟨g, 1, none⟩ v1).setCell ⟨g, 2, none⟩ v2).setCell ⟨g, 3, none⟩ v3).setCell ⟨g, 4, none⟩ v4) ∨ W = (((((P.setCell ⟨g, 0, none⟩ v0).setCell ⟨g, 1, none⟩ v1).setCell ⟨g, 2, none⟩ v2).setCell ⟨g, 3, none⟩ v3).setCell ⟨g, 4, none⟩ v4).drew) :
  Blk W g t #[v0, v1, v2, v3, v4] ∧ (∀ q, q ≠ g → W.heap[q]? = P.heap[q]?) ∧ P.heap.size ≤ W.heap.size ∧ ∀ (w0 : World) (B : Nat), w0.heap.size ≤ g → Dr B w0 P → Dr B w0 W := by
 have hb : Blk (((((P.setCell ⟨g, 0, none⟩ v0).setCell ⟨g, 1, none⟩ v1).setCell ⟨g, 2, none⟩ v2).setCell ⟨g, 3, none⟩ v3).setCell ⟨g, 4, none⟩ v4) g t #[v0, v1, v2, v3, v4] := (Blk.set_ (Blk.set_ (Blk.set_ (Blk.set_ (Blk.set_ h 0 v0) 1 v1) 2 v2) 3 v3) 4 v4)
 have hD : ∀ (w0 : World) (B : Nat), w0.heap.size ≤ g → Dr B w0 P → Dr B w0 (((((P.setCell ⟨g, 0, none⟩ v0).setCell ⟨g, 1, none⟩ v1).setCell ⟨g, 2, none⟩ v2).setCell ⟨g, 3, none⟩ v3).setCell ⟨g, 4, none⟩ v4) := fun w0 B h0 hd => Dr.set (Dr.set (Dr.set (Dr.set (Dr.set hd (.inr h0) v0) (.inr h0) v1) (.inr h0) v2) (.inr h0) v3) (.inr h0) v4
 rcases hw with rfl | rfl
 ·exact ⟨hb, fun q hq => keep5 _ _ _ _ _ _ _ hq, by simp only [World.size_setCell]; exact Nat.le_refl _, hD⟩
 ·exact ⟨hb.drew, fun q hq => keep5d _ _ _ _ _ _ _ hq, by simp only [World.size_setCell, World.size_drew]; exact Nat.le_refl _, fun w0 B h0 hd => (hD w0 B h0 hd).drew⟩
theorem sgn3 {s : List UInt8} (h : s ∈ [[47, 107, 101, 121, 47, 97], [47, 107, 101, 121, 47, 98], [47, 122, 122]]) : okAny (pnS s).1 ∧ s.length ≤ 100 := by
 simp at h; rcases h with rfl | rfl | rfl <;> exact ⟨okAny.of _ b_36, by decide⟩
theorem wr64 (n : Int) : -9223372036854775808 ≤ IntKind.i64.wrap n ∧ IntKind.i64.wrap n ≤ 9223372036854775807 := by
 rw [IntWalk.i64_left]; unfold wrap64; omega
theorem stored4n {P W : World} {g : Nat} {t : TypeId} {a b c d v0 v1 v2 v3 : Value} (h : Blk P g t #[a, b, c, d]) (hw : W = ((((P.setCell ⟨g, 0, none⟩ v0).setCell ⟨g, 1, none⟩ v1).setCell ⟨g, 2, none⟩ v2).setCell ⟨g, 3, none⟩ v3) ∨ W = ((((P.setCell ⟨g, 0, none⟩ v0).setCell ⟨g, 1, none⟩ v1).setCell ⟨g, 2, none⟩ v2).setCell ⟨g, 3, none⟩ v3).drew) :
  Blk W g t #[v0, v1, v2, v3] ∧ (∀ q, q ≠ g → W.heap[q]? = P.heap[q]?) ∧ P.heap.size ≤ W.heap.size ∧ ∀ (w0 : World) (B : Nat), w0.heap.size ≤ g → Dr B w0 P → Dr B w0 W := by
 have hb : Blk ((((P.setCell ⟨g, 0, none⟩ v0).setCell ⟨g, 1, none⟩ v1).setCell ⟨g, 2, none⟩ v2).setCell ⟨g, 3, none⟩ v3) g t #[v0, v1, v2, v3] := (Blk.set_ (Blk.set_ (Blk.set_ (Blk.set_ h 0 v0) 1 v1) 2 v2) 3 v3)
 have hD : ∀ (w0 : World) (B : Nat), w0.heap.size ≤ g → Dr B w0 P → Dr B w0 ((((P.setCell ⟨g, 0, none⟩ v0).setCell ⟨g, 1, none⟩ v1).setCell ⟨g, 2, none⟩ v2).setCell ⟨g, 3, none⟩ v3) := fun w0 B h0 hd => Dr.set (Dr.set (Dr.set (Dr.set hd (.inr h0) v0) (.inr h0) v1) (.inr h0) v2) (.inr h0) v3
 rcases hw with rfl | rfl
 ·exact ⟨hb, fun q hq => keep4 _ _ _ _ _ _ hq, by simp only [World.size_setCell]; exact Nat.le_refl _, hD⟩
 ·exact ⟨hb.drew, fun q hq => by rw [show ∀ V : World, V.drew.heap = V.heap from fun _ => rfl]; exact keep4 _ _ _ _ _ _ hq, by simp only [World.size_setCell, World.size_drew]; exact Nat.le_refl _, fun w0 B h0 hd => (hD w0 B h0 hd).drew⟩
set_option maxRecDepth 100000 in
set_option maxHeartbeats 2000000 in
theorem C_spec_l11Pair (w : World) (v : Value) (b : List UInt8) (h : (Ty.sl .byte).rd w [v] b) :
  Calls Tryz.prog 54 #[v] w (fun e w' => ∃ cs1 t cs2 x now, e = .returned (.tuple #[.agg cs1.toArray, .agg cs2.toArray, .int .i64 now]) ∧ RdI tTrustPolicy w.heap.size w'.heap.size w' cs1 t ∧ RdI tData w.heap.size w'.heap.size w' cs2 x ∧ okPol t ∧ okPolX x ∧ (-9223372036854775808 ≤ now ∧ now ≤ 9223372036854775807) ∧ Below w.heap.size w w') := by
 obtain ⟨Ac, cc, rfl, _, _, _⟩ := Ty.rd_sl h
 go_enter Tryz.func54, Tryz.ntmps54
 go_wp2_with fail
 refine Calls.mono (C_spec_l1New _ _ b (Ty.rd_below b_10 h)) ?_
 rintro e w1 ⟨rfl, hb1, hc1⟩
 simp only [World.size_alloc] at hc1 ⊢
 have z1 := hc1.lt
 have hO1 : Blk w1 w.heap.size 29 #[.slice none 0 0, .slice none 0 0, .slice none 0 0, .slice none 0 0] := ((Blk.new w _ _).alloc _).below hb1 b_30
 have hP1 : Blk w1 (w.heap.size + 1) 34 #[.slice none 0 0, .slice none 0 0, .slice none 0 0, .int .i64 0, .int .i64 0] := (by have := Blk.new (w.alloc (.cells #[.slice none 0 0, .slice none 0 0, .slice none 0 0, .slice none 0 0] 29)) 34 #[.slice none 0 0, .slice none 0 0, .slice none 0 0, .int .i64 0, .int .i64 0]; rw [World.size_alloc] at this; exact this.below hb1 b_30)
 have D1 : Dr (w.heap.size + 1 + 1) w w1 := Dr.of (bel_trans b_10 hb1) _
 clear hb1
 go_wp2_with fail
 refine Calls.mono (C_spec_l11Any _ (w.heap.size + 1 + 1) b_14) ?_
 rintro e w2 ⟨hd2, hc2, cs1, t, cs2, x, rfl, QT, QX, hokt, hokx⟩
 obtain ⟨A1, c1, A2, c2, A3, c3, A4, c4, rfl, -⟩ := rd_TrustPolicy QT.rd
 obtain ⟨B0, d0, B1, d1, B2, d2, rfl, -⟩ := rd_Data QX.rd
 have z2 := hd2.size
 have D2 := D1.trans hd2
 have hO2 := Dr.blk hd2 hO1 b_37
 have hP2 := Dr.blk hd2 hP1 b_37
 clear hd2 hO1 hP1 D1 hc1
 go_wp2_with fail
 obtain ⟨w3, hw3⟩ : ∃ w3, w3 = (w2.alloc (.cells #[.slice A1 (List.length t.1) c1, .slice A2 (List.length t.2.1) c2, .slice A3 (List.length t.2.2.1) c3, .slice A4 (List.length t.2.2.2) c4] 29)).alloc (.cells #[.slice B0 (List.length x.1) d0, .slice B1 (List.length x.2.1) d1, .slice B2 (List.length x.2.2.1) d2, .int .i64 x.2.2.2.1, .int .i64 x.2.2.2.2] 34) := ⟨_, rfl⟩
 have E3 : Dr (w.heap.size + 1 + 1) w2 w3 := by rw [hw3]; exact (new_dr _ w2 _).alloc _
 have hc3 : CurT w3 (w.heap.size + 1 + 1) := by rw [hw3]; exact Cur.alloc (Cur.alloc hc2 _) _
 have hT3 : Blk w3 w2.heap.size 29 #[.slice A1 (List.length t.1) c1, .slice A2 (List.length t.2.1) c2, .slice A3 (List.length t.2.2.1) c3, .slice A4 (List.length t.2.2.2) c4] := by rw [hw3]; exact (Blk.new _ _ _).alloc _
 have hX3 : Blk w3 (w2.heap.size + 1) 34 #[.slice B0 (List.length x.1) d0, .slice B1 (List.length x.2.1) d1, .slice B2 (List.length x.2.2.1) d2, .int .i64 x.2.2.2.1, .int .i64 x.2.2.2.2] := by rw [hw3]; have := Blk.new (w2.alloc (.cells #[.slice A1 (List.length t.1) c1, .slice A2 (List.length t.2.1) c2, .slice A3 (List.length t.2.2.1) c3, .slice A4 (List.length t.2.2.2) c4] 29)) 34 #[.slice B0 (List.length x.1) d0, .slice B1 (List.length x.2.1) d1, .slice B2 (List.length x.2.2.1) d2, .int .i64 x.2.2.2.1, .int .i64 x.2.2.2.2]; rw [World.size_alloc] at this; exact this
 have hO3 := Dr.blk E3 hO2 b_37
 have hP3 := Dr.blk E3 hP2 b_37
 have QT3 := QT.dr E3 b_37
 have QX3 := QX.dr E3 b_37
 have D3 := Lib.hid (D2.trans E3)
 have z3 := hX3.lt
 rw [← hw3]
 clear hw3 E3 hO2 hP2 QT QX D2 hc2
 have HCC : Hid (∀ V, Dr (w.heap.size + 1 + 1) w3 V → V.cell? ⟨w2.heap.size, 0, none⟩ = some (.slice A1 (List.length t.1) c1) ∧ V.cell? ⟨w2.heap.size, 1, none⟩ = some (.slice A2 (List.length t.2.1) c2) ∧ V.cell? ⟨w2.heap.size, 2, none⟩ = some (.slice A3 (List.length t.2.2.1) c3) ∧ V.cell? ⟨w2.heap.size, 3, none⟩ = some (.slice A4 (List.length t.2.2.2) c4) ∧ V.cell? ⟨w2.heap.size + 1, 0, none⟩ = some (.slice B0 (List.length x.1) d0) ∧ V.cell? ⟨w2.heap.size + 1, 1, none⟩ = some (.slice B1 (List.length x.2.1) d1) ∧ V.cell? ⟨w2.heap.size + 1, 2, none⟩ = some (.slice B2 (List.length x.2.2.1) d2) ∧ V.cell? ⟨w2.heap.size + 1, 3, none⟩ = some (.int .i64 x.2.2.2.1) ∧ V.cell? ⟨w2.heap.size + 1, 4, none⟩ = some (.int .i64 x.2.2.2.2)) := fun V hV => by
  obtain ⟨a0, a1, a2, a3, -⟩ := blk4 (Dr.blk hV hT3 b_37)
  obtain ⟨b0, b1, b2, b3, b4, -⟩ := blk5 (Dr.blk hV hX3 b_37)
  exact ⟨a0, a1, a2, a3, b0, b1, b2, b3, b4⟩
 refine wp_region_noPanic ?_
 refine wp_region_held_drew (S := (fun V => V.cell? ⟨w2.heap.size, 0, none⟩ = some (.slice A1 (List.length t.1) c1) ∧ V.cell? ⟨w2.heap.size, 1, none⟩ = some (.slice A2 (List.length t.2.1) c2) ∧ V.cell? ⟨w2.heap.size, 2, none⟩ = some (.slice A3 (List.length t.2.2.1) c3) ∧ V.cell? ⟨w2.heap.size, 3, none⟩ = some (.slice A4 (List.length t.2.2.2) c4) ∧ V.cell? ⟨w2.heap.size + 1, 0, none⟩ = some (.slice B0 (List.length x.1) d0) ∧ V.cell? ⟨w2.heap.size + 1, 1, none⟩ = some (.slice B1 (List.length x.2.1) d1) ∧ V.cell? ⟨w2.heap.size + 1, 2, none⟩ = some (.slice B2 (List.length x.2.2.1) d2) ∧ V.cell? ⟨w2.heap.size + 1, 3, none⟩ = some (.int .i64 x.2.2.2.1) ∧ V.cell? ⟨w2.heap.size + 1, 4, none⟩ = some (.int .i64 x.2.2.2.2))) b_35 ?_ (fun hHeld => ?_)
 ·exact HCC.out _ (Dr.drew (Dr.refl _ _))
 refine tkz3 0 1 2 ?_
 try simp only [layz]
 refine rz1 3 (fun K hK => ?_)
 go_simp
 refine abs_world (fun w4 hw4 => ?_)
 obtain ⟨E4, hc4, z4⟩ := nz hw4 hc3
 have HL4 := Lib.hid (show RdI (.sl .int) w3.heap.size (w3.heap.size + 1) w4 [.slice (some ⟨w3.heap.size, 0, none⟩) 4 4] [(50 : Int), (30 : Int), (4999 : Int), (5001 : Int)] by rw [hw4]; exact b_7)
 clear hw4
 refine hK.out _ _ (HCC.out _ (drz E4)) (fun hHeld => ?_)
 clear hK K
 try simp only [layz]
 refine rz1 4 (fun K hK => ?_)
 go_simp
 go_at_call 64
 refine Calls.mono (C_spec_l1Int _ (w.heap.size + 1 + 1) _ [50, 30, 4999, 5001] (cuz hc4) (HL4.out.hide b_37) b_36 b_36) ?_
 rintro e w5 ⟨hd5, hc5, s, hs, rfl⟩
 obtain ⟨E5, z5⟩ := ez w4 hd5
 have hnew : -9223372036854775808 ≤ s ∧ s ≤ 9223372036854775807 := by have := mem_word hs b_36; omega
 clear hs
 clear hd5
 refine hK.out _ _ (HCC.out _ (drz (E4.trans E5))) (fun hHeld => ?_)
 clear hK K
 try simp only [layz]
 refine rz1 5 (fun K hK => ?_)
 have F5 : Dr (w.heap.size + 1 + 1) w3 w5 := (drz (E4.trans E5))
 have hOc := Dr.blk F5 hO3 b_37
 obtain ⟨o0, o1, o2, o3, f0, f1, f2, f3⟩ := blk4 hOc
 have zO := hOc.lt
 go_simp
 refine abs_world (fun wO hw => ?_)
 obtain ⟨hOO, hK, hs, F⟩ := stored4n (v0 := .slice A1 (List.length t.1) c1) (v1 := .slice A2 (List.length t.2.1) c2) (v2 := .slice A3 (List.length t.2.2.1) c3) (v3 := .slice A4 (List.length t.2.2.2) c4) hOc (.inl hw)
 have EO := F w3 (w.heap.size + 1 + 1)
 have DO := Lib.hid (F w (w.heap.size + 1 + 1) b_37 (D3.out.trans F5))
 have hTO := (hK _ b_37).trans (Dr.blk F5 hT3 b_37)
 have hXO := (hK _ b_37).trans (Dr.blk F5 hX3 b_37)
 have hPO : Blk wO (w.heap.size + 1) 34 #[.slice none 0 0, .slice none 0 0, .slice none 0 0, .int .i64 0, .int .i64 0] := (hK _ b_37).trans (Dr.blk F5 hP3 b_37)
 have QTO := (QT3.dr F5 b_37).keep hs (fun q h1 h2 => hK q b_37)
 have QXO := (QX3.dr F5 b_37).keep hs (fun q h1 h2 => hK q b_37)
 have hTO : Blk wO w2.heap.size 29 #[.slice A1 (List.length t.1) c1, .slice A2 (List.length t.2.1) c2, .slice A3 (List.length t.2.2.1) c3, .slice A4 (List.length t.2.2.2) c4] := hTO
 have hXO : Blk wO (w2.heap.size + 1) 34 #[.slice B0 (List.length x.1) d0, .slice B1 (List.length x.2.1) d1, .slice B2 (List.length x.2.2.1) d2, .int .i64 x.2.2.2.1, .int .i64 x.2.2.2.2] := hXO
 obtain ⟨a0, a1, a2, a3, -⟩ := blk4 hTO
 obtain ⟨b0, b1, b2, b3, b4, -⟩ := blk5 hXO
 obtain ⟨p0, p1, p2, p3, p4, g0, g1, g2, g3, g4⟩ := blk5 hPO
 have zP := hPO.lt
 clear hw hK hs F EO o0 o1 o2 o3 f0 f1 f2 f3 hOc
 refine hK.out _ _ (⟨a0, a1, a2, a3, b0, b1, b2, b3, b4⟩) (fun hHeld => ?_)
 clear hK K
 try simp only [layz]
 refine rz1 6 (fun K hK => ?_)
 go_simp
 refine abs_world (fun wP hw => ?_)
 obtain ⟨hPP, hK, hs, F⟩ := stored5n (v0 := .slice B0 (List.length x.1) d0) (v1 := .slice B1 (List.length x.2.1) d1) (v2 := .slice B2 (List.length x.2.2.1) d2) (v3 := .int .i64 x.2.2.2.1) (v4 := .int .i64 x.2.2.2.2) hPO (.inl hw)
 have DP := Lib.hid (F w (w.heap.size + 1 + 1) b_37 DO.out)
 have hOP : Blk wP w.heap.size 29 #[.slice A1 (List.length t.1) c1, .slice A2 (List.length t.2.1) c2, .slice A3 (List.length t.2.2.1) c3, .slice A4 (List.length t.2.2.2) c4] := (hK _ b_37).trans hOO
 have QTP := QTO.keep hs (fun q h1 h2 => hK q b_37)
 have QXP := QXO.keep hs (fun q h1 h2 => hK q b_37)
 clear a0 a1 a2 a3 b0 b1 b2 b3 b4
 have hTP : Blk wP w2.heap.size 29 #[.slice A1 (List.length t.1) c1, .slice A2 (List.length t.2.1) c2, .slice A3 (List.length t.2.2.1) c3, .slice A4 (List.length t.2.2.2) c4] := (hK _ b_37).trans hTO
 have hXP : Blk wP (w2.heap.size + 1) 34 #[.slice B0 (List.length x.1) d0, .slice B1 (List.length x.2.1) d1, .slice B2 (List.length x.2.2.1) d2, .int .i64 x.2.2.2.1, .int .i64 x.2.2.2.2] := (hK _ b_37).trans hXO
 obtain ⟨a0, a1, a2, a3, -⟩ := blk4 hTP
 obtain ⟨b0, b1, b2, b3, b4, -⟩ := blk5 hXP
 clear hw hK hs F p0 p1 p2 p3 p4 g0 g1 g2 g3 g4
 refine hK.out _ _ (⟨a0, a1, a2, a3, b0, b1, b2, b3, b4⟩) (fun hHeld => ?_)
 clear hK K
 try simp only [layz]
 refine tkz 7 ?_
 try simp only [layz]
 refine wpAnyH_done b_35 ?_ _
 refine NoPanic.normal ?_
 clear a0 a1 a2 a3 b0 b1 b2 b3 b4
 obtain ⟨o0, o1, o2, o3, -⟩ := blk4 hOP
 obtain ⟨p0, p1, p2, p3, p4, -⟩ := blk5 hPP
 go_wp2
 refine bodyPost_ret (v := .tuple #[.agg #[.slice A1 (List.length t.1) c1, .slice A2 (List.length t.2.1) c2, .slice A3 (List.length t.2.2.1) c3, .slice A4 (List.length t.2.2.2) c4], .agg #[.slice B0 (List.length x.1) d0, .slice B1 (List.length x.2.1) d1, .slice B2 (List.length x.2.2.1) d2, .int .i64 x.2.2.2.1, .int .i64 x.2.2.2.2], .int .i64 s]) (by simp [results, Tryz.results54, go_sem, o0, o1, o2, o3, p0, p1, p2, p3, p4]) rfl ?_
 exact ⟨_, t, _, x, _, rfl, QTP.mono b_37 QTP.1 (Nat.le_refl _), QXP.mono b_37 QXP.1 (Nat.le_refl _), hokt, hokx, hnew, Dr.below DP.out b_37 (Nat.le_refl _)⟩
theorem nam5 {s : List UInt8} (h : s ∈ [[47, 107, 101, 121, 47, 97], [47, 97, 47, 107, 101, 121], [47, 98, 47, 107, 101, 121], [47, 98, 97, 100, 47, 107, 101, 121], [47, 122, 122]]) : okAny (pnS s).1 ∧ s.length ≤ 100 := by
 simp at h; rcases h with rfl | rfl | rfl | rfl | rfl <;> exact ⟨okAny.of _ b_36, by decide⟩
set_option maxRecDepth 100000 in
set_option maxHeartbeats 2000000 in
theorem C_spec_l11Name (w : World) (v : Value) (b : List UInt8) (h : (Ty.sl .byte).rd w [v] b) :
  Calls Tryz.prog 58 #[v] w (fun e w' => ∃ cs1 t An n cn, e = .returned (.tuple #[.agg cs1.toArray, .agg #[.slice An (List.length n) cn]]) ∧ RdI tTrustPolicy w.heap.size w'.heap.size w' cs1 t ∧ RdI (.sl .str) w.heap.size w'.heap.size w' [.slice An (List.length n) cn] n ∧ okPol t ∧ okAny n ∧ Below w.heap.size w w') := by
 obtain ⟨Ac, cc, rfl, _, _, _⟩ := Ty.rd_sl h
 go_enter Tryz.func58, Tryz.ntmps58
 go_wp2_with fail
 refine Calls.mono (C_spec_l1New _ _ b (Ty.rd_below b_10 h)) ?_
 rintro e w1 ⟨rfl, hb1, hc1⟩
 simp only [World.size_alloc] at hc1 ⊢
 have z1 := hc1.lt
 have hO1 : Blk w1 w.heap.size 29 #[.slice none 0 0, .slice none 0 0, .slice none 0 0, .slice none 0 0] := ((Blk.new w _ _).alloc _).below hb1 b_30
 have hP1 : Blk w1 (w.heap.size + 1) 32 #[.slice none 0 0] := (by have := Blk.new (w.alloc (.cells #[.slice none 0 0, .slice none 0 0, .slice none 0 0, .slice none 0 0] 29)) 32 #[.slice none 0 0]; rw [World.size_alloc] at this; exact this.below hb1 b_30)
 have D1 : Dr (w.heap.size + 1 + 1) w w1 := Dr.of (bel_trans b_10 hb1) _
 clear hb1
 go_wp2_with fail
 refine Calls.mono (C_spec_l11Any _ (w.heap.size + 1 + 1) b_14) ?_
 rintro e w2 ⟨hd2, hc2, cs1, t, cs2, x, rfl, QT, QX, hokt, hokx⟩
 obtain ⟨A1, c1, A2, c2, A3, c3, A4, c4, rfl, -⟩ := rd_TrustPolicy QT.rd
 obtain ⟨B0, d0, B1, d1, B2, d2, rfl, -⟩ := rd_Data QX.rd
 have z2 := hd2.size
 have D2 := D1.trans hd2
 have hO2 := Dr.blk hd2 hO1 b_37
 have hP2 := Dr.blk hd2 hP1 b_37
 clear hd2 hO1 hP1 D1 hc1
 go_wp2_with fail
 obtain ⟨w3, hw3⟩ : ∃ w3, w3 = (w2.alloc (.cells #[.slice A1 (List.length t.1) c1, .slice A2 (List.length t.2.1) c2, .slice A3 (List.length t.2.2.1) c3, .slice A4 (List.length t.2.2.2) c4] 29)).alloc (.cells #[.slice B0 (List.length x.1) d0, .slice B1 (List.length x.2.1) d1, .slice B2 (List.length x.2.2.1) d2, .int .i64 x.2.2.2.1, .int .i64 x.2.2.2.2] 34) := ⟨_, rfl⟩
 have E3 : Dr (w.heap.size + 1 + 1) w2 w3 := by rw [hw3]; exact (new_dr _ w2 _).alloc _
 have hc3 : CurT w3 (w.heap.size + 1 + 1) := by rw [hw3]; exact Cur.alloc (Cur.alloc hc2 _) _
 have hT3 : Blk w3 w2.heap.size 29 #[.slice A1 (List.length t.1) c1, .slice A2 (List.length t.2.1) c2, .slice A3 (List.length t.2.2.1) c3, .slice A4 (List.length t.2.2.2) c4] := by rw [hw3]; exact (Blk.new _ _ _).alloc _
 have hX3 : Blk w3 (w2.heap.size + 1) 34 #[.slice B0 (List.length x.1) d0, .slice B1 (List.length x.2.1) d1, .slice B2 (List.length x.2.2.1) d2, .int .i64 x.2.2.2.1, .int .i64 x.2.2.2.2] := by rw [hw3]; have := Blk.new (w2.alloc (.cells #[.slice A1 (List.length t.1) c1, .slice A2 (List.length t.2.1) c2, .slice A3 (List.length t.2.2.1) c3, .slice A4 (List.length t.2.2.2) c4] 29)) 34 #[.slice B0 (List.length x.1) d0, .slice B1 (List.length x.2.1) d1, .slice B2 (List.length x.2.2.1) d2, .int .i64 x.2.2.2.1, .int .i64 x.2.2.2.2]; rw [World.size_alloc] at this; exact this
 have hO3 := Dr.blk E3 hO2 b_37
 have hP3 := Dr.blk E3 hP2 b_37
 have QT3 := QT.dr E3 b_37
 have QX3 := QX.dr E3 b_37
 have D3 := Lib.hid (D2.trans E3)
 have z3 := hX3.lt
 rw [← hw3]
 clear hw3 E3 hO2 hP2 QT QX D2 hc2
 have HCC : Hid (∀ V, Dr (w.heap.size + 1 + 1) w3 V → V.cell? ⟨w2.heap.size, 0, none⟩ = some (.slice A1 (List.length t.1) c1) ∧ V.cell? ⟨w2.heap.size, 1, none⟩ = some (.slice A2 (List.length t.2.1) c2) ∧ V.cell? ⟨w2.heap.size, 2, none⟩ = some (.slice A3 (List.length t.2.2.1) c3) ∧ V.cell? ⟨w2.heap.size, 3, none⟩ = some (.slice A4 (List.length t.2.2.2) c4)) := fun V hV => by
  obtain ⟨a0, a1, a2, a3, -⟩ := blk4 (Dr.blk hV hT3 b_37)
  exact ⟨a0, a1, a2, a3⟩
 refine wp_region_noPanic ?_
 refine wp_region_held_drew (S := (fun V => V.cell? ⟨w2.heap.size, 0, none⟩ = some (.slice A1 (List.length t.1) c1) ∧ V.cell? ⟨w2.heap.size, 1, none⟩ = some (.slice A2 (List.length t.2.1) c2) ∧ V.cell? ⟨w2.heap.size, 2, none⟩ = some (.slice A3 (List.length t.2.2.1) c3) ∧ V.cell? ⟨w2.heap.size, 3, none⟩ = some (.slice A4 (List.length t.2.2.2) c4))) b_35 ?_ (fun hHeld => ?_)
 ·exact HCC.out _ (Dr.drew (Dr.refl _ _))
 refine tkz2 0 1 ?_
 try simp only [layz]
 refine rz1 2 (fun K hK => ?_)
 go_simp
 refine abs_world (fun w4 hw4 => ?_)
 obtain ⟨E4, hc4, z4⟩ := nz hw4 hc3
 have HL4 := Lib.hid (show RdI (.sl .str) w3.heap.size (w3.heap.size + 1) w4 [.slice (some ⟨w3.heap.size, 0, none⟩) 5 5] [[47, 107, 101, 121, 47, 97], [47, 97, 47, 107, 101, 121], [47, 98, 47, 107, 101, 121], [47, 98, 97, 100, 47, 107, 101, 121], [47, 122, 122]] by rw [hw4]; exact b_6)
 clear hw4
 refine hK.out _ _ (HCC.out _ (drz E4)) (fun hHeld => ?_)
 clear hK K
 try simp only [layz]
 refine rz1 3 (fun K hK => ?_)
 go_simp
 go_at_call 63
 refine Calls.mono (C_spec_l1Str _ (w.heap.size + 1 + 1) _ [[47, 107, 101, 121, 47, 97], [47, 97, 47, 107, 101, 121], [47, 98, 47, 107, 101, 121], [47, 98, 97, 100, 47, 107, 101, 121], [47, 122, 122]] (cuz hc4) (HL4.out.hide b_37) b_36 b_36) ?_
 rintro e w5 ⟨hd5, hc5, s, hs, rfl⟩
 obtain ⟨E5, z5⟩ := ez w4 hd5
 have hs5 := nam5 hs
 have hsl := hs5.2
 have HOKN := Lib.hid hs5.1
 clear hs hs5
 clear hd5
 refine hK.out _ _ (HCC.out _ (drz (E4.trans E5))) (fun hHeld => ?_)
 clear hK K
 try simp only [layz]
 refine rz1 4 (fun K hK => ?_)
 go_simp
 go_at_call 62
 refine Calls.mono (C_spec_l4Of _ s b_37) ?_
 rintro e w6 ⟨cs6, fp6, rfl, how6, hfr6, hb6⟩
 obtain ⟨E6, z6⟩ := ez w5 (Dr.of hb6 (w.heap.size + 1 + 1))
 have hc6 : CurT w6 (w.heap.size + 1 + 1) := Cur.below (cuz hc5) hb6
 obtain ⟨A5, c5, rfl⟩ := Ty.ow_slv how6
 have Q6 := RdI.of_owF how6 hfr6 (Nat.le_refl _)
 (try simp only [szz] at Q6)
 generalize (pnS s).1 = n at Q6 HOKN ⊢
 clear how6 hfr6
 clear hb6
 refine hK.out _ _ (HCC.out _ (drz (E4.trans (E5.trans E6)))) (fun hHeld => ?_)
 clear hK K
 try simp only [layz]
 refine rz1 5 (fun K hK => ?_)
 have F6 : Dr (w.heap.size + 1 + 1) w3 w6 := (drz (E4.trans (E5.trans E6)))
 have hOc := Dr.blk F6 hO3 b_37
 obtain ⟨o0, o1, o2, o3, f0, f1, f2, f3⟩ := blk4 hOc
 have zO := hOc.lt
 go_simp
 refine abs_world (fun wO hw => ?_)
 obtain ⟨hOO, hK, hs, F⟩ := stored4n (v0 := .slice A1 (List.length t.1) c1) (v1 := .slice A2 (List.length t.2.1) c2) (v2 := .slice A3 (List.length t.2.2.1) c3) (v3 := .slice A4 (List.length t.2.2.2) c4) hOc (.inl hw)
 have DO := Lib.hid (F w (w.heap.size + 1 + 1) b_37 (D3.out.trans F6))
 have hTO : Blk wO w2.heap.size 29 #[.slice A1 (List.length t.1) c1, .slice A2 (List.length t.2.1) c2, .slice A3 (List.length t.2.2.1) c3, .slice A4 (List.length t.2.2.2) c4] := (hK _ b_37).trans (Dr.blk F6 hT3 b_37)
 have hPO : Blk wO (w.heap.size + 1) 32 #[.slice none 0 0] := (hK _ b_37).trans (Dr.blk F6 hP3 b_37)
 have QTO := (QT3.dr F6 b_37).keep hs (fun q h1 h2 => hK q b_37)
 have QNO := Q6.keep hs (fun q h1 h2 => hK q b_37)
 obtain ⟨a0, a1, a2, a3, -⟩ := blk4 hTO
 obtain ⟨p0, g0, -⟩ := bk1 hPO
 have zP := hPO.lt
 clear hw hK hs F o0 o1 o2 o3 f0 f1 f2 f3 hOc
 refine hK.out _ _ (⟨a0, a1, a2, a3⟩) (fun hHeld => ?_)
 clear hK K
 try simp only [layz]
 refine rz1 6 (fun K hK => ?_)
 go_simp
 refine abs_world (fun wP hw => ?_)
 have hPP : Blk wP (w.heap.size + 1) 32 #[.slice A5 (List.length n) c5] := by rw [hw]; exact hPO.set_ 0 _
 have DP : Hid (Dr (w.heap.size + 1 + 1) w wP) := Lib.hid (by rw [hw]; exact Dr.set DO.out (p := ⟨w.heap.size + 1, 0, none⟩) (.inr b_34) _)
 have hOP : Blk wP w.heap.size 29 #[.slice A1 (List.length t.1) c1, .slice A2 (List.length t.2.1) c2, .slice A3 (List.length t.2.2.1) c3, .slice A4 (List.length t.2.2.2) c4] := by rw [hw]; exact hOO.far (p := ⟨w.heap.size + 1, 0, none⟩) b_34 _
 have hTP : Blk wP w2.heap.size 29 #[.slice A1 (List.length t.1) c1, .slice A2 (List.length t.2.1) c2, .slice A3 (List.length t.2.2.1) c3, .slice A4 (List.length t.2.2.2) c4] := by rw [hw]; exact hTO.far (p := ⟨w.heap.size + 1, 0, none⟩) b_34 _
 have QTP : RdI tTrustPolicy w1.heap.size w2.heap.size wP [.slice A1 (List.length t.1) c1, .slice A2 (List.length t.2.1) c2, .slice A3 (List.length t.2.2.1) c3, .slice A4 (List.length t.2.2.2) c4] t := by rw [hw]; exact QTO.set (p := ⟨w.heap.size + 1, 0, none⟩) (.inl b_34) _
 have QNP : RdI (.sl .str) w5.heap.size w6.heap.size wP [.slice A5 (List.length n) c5] n := by rw [hw]; exact QNO.set (p := ⟨w.heap.size + 1, 0, none⟩) (.inl b_34) _
 clear a0 a1 a2 a3
 obtain ⟨a0, a1, a2, a3, -⟩ := blk4 hTP
 clear hw p0 g0
 refine hK.out _ _ (⟨a0, a1, a2, a3⟩) (fun hHeld => ?_)
 clear hK K
 try simp only [layz]
 refine wpAnyH_done b_35 ?_ _
 refine NoPanic.normal ?_
 clear a0 a1 a2 a3
 obtain ⟨o0, o1, o2, o3, -⟩ := blk4 hOP
 have p0 : wP.cell? ⟨w.heap.size + 1, 0, none⟩ = some (.slice A5 (List.length n) c5) := hPP.cell 0
 go_wp2
 refine bodyPost_ret (v := .tuple #[.agg #[.slice A1 (List.length t.1) c1, .slice A2 (List.length t.2.1) c2, .slice A3 (List.length t.2.2.1) c3, .slice A4 (List.length t.2.2.2) c4], .agg #[.slice A5 (List.length n) c5]]) (by simp [results, Tryz.results58, go_sem, o0, o1, o2, o3, p0]) rfl ?_
 exact ⟨_, t, _, n, _, rfl, QTP.mono b_37 QTP.1 (Nat.le_refl _), QNP.mono b_37 QNP.1 (Nat.le_refl _), hokt, HOKN.out, Dr.below DP.out b_37 (Nat.le_refl _)⟩
set_option maxRecDepth 100000 in
set_option maxHeartbeats 2000000 in
theorem C_spec_DrawIsTrusted (w : World) (v : Value) (b : List UInt8) (h : (Ty.sl .byte).rd w [v] b) :
  Calls Tryz.prog 7 #[v] w (fun e w' => ∃ cs1 t cs2 x now, e = .returned (.tuple #[.agg cs1.toArray, .agg cs2.toArray, .int .i64 now]) ∧ tTrustPolicy.rd w' cs1 t ∧ tData.rd w' cs2 x ∧ okPol t ∧ okPolX x ∧ (-9223372036854775808 ≤ now ∧ now ≤ 9223372036854775807) ∧ Below w.heap.size w w') := by
 obtain ⟨Ac, cc, rfl, _, _, _⟩ := Ty.rd_sl h
 go_enter Tryz.func7, Tryz.ntmps7
 go_wp2_with fail
 refine Calls.mono (C_spec_l11Pair _ _ b (Ty.rd_below b_10 h)) ?_
 rintro e w1 ⟨cs1, t, cs2, x, now, rfl, QT, QX, hokt, hokx, hnow, hb1⟩
 (try simp only [World.size_alloc] at hb1 QT QX)
 have z1 := hb1.size
 have hO1 : Blk w1 w.heap.size 29 #[.slice none 0 0, .slice none 0 0, .slice none 0 0, .slice none 0 0] := ((Blk.new w _ _).alloc _).below hb1 (by (try simp only [World.size_alloc]); omega)
 have hP1 : Blk w1 (w.heap.size + 1) 34 #[.slice none 0 0, .slice none 0 0, .slice none 0 0, .int .i64 0, .int .i64 0] := (by have := Blk.new (w.alloc (.cells #[.slice none 0 0, .slice none 0 0, .slice none 0 0, .slice none 0 0] 29)) 34 #[.slice none 0 0, .slice none 0 0, .slice none 0 0, .int .i64 0, .int .i64 0]; rw [World.size_alloc] at this; exact this.below hb1 (by (try simp only [World.size_alloc]); omega))
 have hB1 : Below w.heap.size w w1 := bel_trans b_10 (hb1.mono (by (try simp only [World.size_alloc]); omega))
 obtain ⟨A1, c1, A2, c2, A3, c3, A4, c4, rfl, -⟩ := rd_TrustPolicy QT.rd
 obtain ⟨B0, d0, B1, d1, B2, d2, rfl, -⟩ := rd_Data QX.rd
 obtain ⟨o0, o1, o2, o3, f0, f1, f2, f3⟩ := blk4 hO1
 have zO := hO1.lt
 have zP := hP1.lt
 obtain ⟨p0, p1, p2, p3, p4, g0, g1, g2, g3, g4⟩ := blk5 hP1
 go_wp2_with fail
 obtain ⟨wO, hwO⟩ : ∃ wO, wO = ((((w1.setCell ⟨w.heap.size, 0, none⟩ (.slice A1 (List.length t.1) c1)).setCell ⟨w.heap.size, 1, none⟩ (.slice A2 (List.length t.2.1) c2)).setCell ⟨w.heap.size, 2, none⟩ (.slice A3 (List.length t.2.2.1) c3)).setCell ⟨w.heap.size, 3, none⟩ (.slice A4 (List.length t.2.2.2) c4)) := ⟨_, rfl⟩
 obtain ⟨hOO, hK, hs, F⟩ := stored4n (v0 := .slice A1 (List.length t.1) c1) (v1 := .slice A2 (List.length t.2.1) c2) (v2 := .slice A3 (List.length t.2.2.1) c3) (v3 := .slice A4 (List.length t.2.2.2) c4) hO1 (.inl hwO)
 rw [← hwO]
 have hPO : Blk wO (w.heap.size + 1) 34 #[.slice none 0 0, .slice none 0 0, .slice none 0 0, .int .i64 0, .int .i64 0] := (hK (w.heap.size + 1) b_37).trans hP1
 have QTO := QT.keep hs (fun q h1 h2 => hK q b_37)
 have QXO := QX.keep hs (fun q h1 h2 => hK q b_37)
 have hBO : Below w.heap.size w wO := by rw [hwO]; exact b_10
 have zQ := hBO.size
 clear hwO hK hs F o0 o1 o2 o3 f0 f1 f2 f3 p0 p1 p2 p3 p4 g0 g1 g2 g3 g4
 obtain ⟨wP, hwP⟩ : ∃ wP, wP = (((((wO.setCell ⟨w.heap.size + 1, 0, none⟩ (.slice B0 (List.length x.1) d0)).setCell ⟨w.heap.size + 1, 1, none⟩ (.slice B1 (List.length x.2.1) d1)).setCell ⟨w.heap.size + 1, 2, none⟩ (.slice B2 (List.length x.2.2.1) d2)).setCell ⟨w.heap.size + 1, 3, none⟩ (.int .i64 x.2.2.2.1)).setCell ⟨w.heap.size + 1, 4, none⟩ (.int .i64 x.2.2.2.2)) := ⟨_, rfl⟩
 obtain ⟨hPP, hK, hs, F⟩ := stored5n (v0 := .slice B0 (List.length x.1) d0) (v1 := .slice B1 (List.length x.2.1) d1) (v2 := .slice B2 (List.length x.2.2.1) d2) (v3 := .int .i64 x.2.2.2.1) (v4 := .int .i64 x.2.2.2.2) hPO (.inl hwP)
 rw [← hwP]
 have hBP : Below w.heap.size w wP := by rw [hwP]; exact b_10
 have hOP : Blk wP w.heap.size 29 #[.slice A1 (List.length t.1) c1, .slice A2 (List.length t.2.1) c2, .slice A3 (List.length t.2.2.1) c3, .slice A4 (List.length t.2.2.2) c4] := (hK _ b_37).trans hOO
 obtain ⟨o0, o1, o2, o3, -⟩ := blk4 hOP
 obtain ⟨p0, p1, p2, p3, p4, -⟩ := blk5 hPP
 refine bodyPost_ret (v := .tuple #[.agg #[.slice A1 (List.length t.1) c1, .slice A2 (List.length t.2.1) c2, .slice A3 (List.length t.2.2.1) c3, .slice A4 (List.length t.2.2.2) c4], .agg #[.slice B0 (List.length x.1) d0, .slice B1 (List.length x.2.1) d1, .slice B2 (List.length x.2.2.1) d2, .int .i64 x.2.2.2.1, .int .i64 x.2.2.2.2], .int .i64 now]) (by simp [results, Tryz.results7, go_sem, o0, o1, o2, o3, p0, p1, p2, p3, p4]) rfl ?_
 exact ⟨_, t, _, x, _, rfl, (QTO.keep hs (fun q h1 h2 => hK q b_37)).rd, (QXO.keep hs (fun q h1 h2 => hK q b_37)).rd, hokt, hokx, hnow, hBP⟩
set_option maxRecDepth 100000 in
set_option maxHeartbeats 2000000 in
theorem C_spec_DrawIsAnchor (w : World) (v : Value) (b : List UInt8) (h : (Ty.sl .byte).rd w [v] b) :
  Calls Tryz.prog 12 #[v] w (fun e w' => ∃ cs1 t An n cn, e = .returned (.tuple #[.agg cs1.toArray, .agg #[.slice An (List.length n) cn]]) ∧ tTrustPolicy.rd w' cs1 t ∧ (Ty.sl .str).rd w' [.slice An (List.length n) cn] n ∧ okPol t ∧ okAny n ∧ Below w.heap.size w w') := by
 obtain ⟨Ac, cc, rfl, _, _, _⟩ := Ty.rd_sl h
 go_enter Tryz.func12, Tryz.ntmps12
 go_wp2_with fail
 refine Calls.mono (C_spec_l11Name _ _ b (Ty.rd_below b_10 h)) ?_
 rintro e w1 ⟨cs1, t, An, n, cn, rfl, QT, QX, hokt, hokn, hb1⟩
 (try simp only [World.size_alloc] at hb1 QT QX)
 have z1 := hb1.size
 have hO1 : Blk w1 w.heap.size 29 #[.slice none 0 0, .slice none 0 0, .slice none 0 0, .slice none 0 0] := ((Blk.new w _ _).alloc _).below hb1 (by (try simp only [World.size_alloc]); omega)
 have hP1 : Blk w1 (w.heap.size + 1) 32 #[.slice none 0 0] := (by have := Blk.new (w.alloc (.cells #[.slice none 0 0, .slice none 0 0, .slice none 0 0, .slice none 0 0] 29)) 32 #[.slice none 0 0]; rw [World.size_alloc] at this; exact this.below hb1 (by (try simp only [World.size_alloc]); omega))
 have hB1 : Below w.heap.size w w1 := bel_trans b_10 (hb1.mono (by (try simp only [World.size_alloc]); omega))
 obtain ⟨A1, c1, A2, c2, A3, c3, A4, c4, rfl, -⟩ := rd_TrustPolicy QT.rd
 obtain ⟨o0, o1, o2, o3, f0, f1, f2, f3⟩ := blk4 hO1
 have zO := hO1.lt
 have zP := hP1.lt
 obtain ⟨p0, g0, -⟩ := bk1 hP1
 go_wp2_with fail
 obtain ⟨wO, hwO⟩ : ∃ wO, wO = ((((w1.setCell ⟨w.heap.size, 0, none⟩ (.slice A1 (List.length t.1) c1)).setCell ⟨w.heap.size, 1, none⟩ (.slice A2 (List.length t.2.1) c2)).setCell ⟨w.heap.size, 2, none⟩ (.slice A3 (List.length t.2.2.1) c3)).setCell ⟨w.heap.size, 3, none⟩ (.slice A4 (List.length t.2.2.2) c4)) := ⟨_, rfl⟩
 obtain ⟨hOO, hK, hs, F⟩ := stored4n (v0 := .slice A1 (List.length t.1) c1) (v1 := .slice A2 (List.length t.2.1) c2) (v2 := .slice A3 (List.length t.2.2.1) c3) (v3 := .slice A4 (List.length t.2.2.2) c4) hO1 (.inl hwO)
 rw [← hwO]
 have hPO : Blk wO (w.heap.size + 1) 32 #[.slice none 0 0] := (hK (w.heap.size + 1) b_37).trans hP1
 have QTO := QT.keep hs (fun q h1 h2 => hK q b_37)
 have QXO := QX.keep hs (fun q h1 h2 => hK q b_37)
 have hBO : Below w.heap.size w wO := by rw [hwO]; exact b_10
 have zQ := hBO.size
 clear hwO hK hs F o0 o1 o2 o3 f0 f1 f2 f3 p0 g0
 have hPP := hPO.set_ 0 (.slice An (List.length n) cn)
 have hOP := hOO.far (p := ⟨w.heap.size + 1, 0, none⟩) b_34 (.slice An (List.length n) cn)
 have QTP := (QTO.set (p := ⟨w.heap.size + 1, 0, none⟩) (.inl b_34) (.slice An (List.length n) cn)).rd
 have QXP := (QXO.set (p := ⟨w.heap.size + 1, 0, none⟩) (.inl b_34) (.slice An (List.length n) cn)).rd
 have hBP : Below w.heap.size w (wO.setCell ⟨w.heap.size + 1, 0, none⟩ (.slice An (List.length n) cn)) := b_10
 generalize wO.setCell ⟨w.heap.size + 1, 0, none⟩ (.slice An (List.length n) cn) = wP at hPP hOP QTP QXP hBP ⊢
 obtain ⟨o0, o1, o2, o3, -⟩ := blk4 hOP
 have p0 : wP.cell? ⟨w.heap.size + 1, 0, none⟩ = some (.slice An (List.length n) cn) := hPP.cell 0
 refine bodyPost_ret (v := .tuple #[.agg #[.slice A1 (List.length t.1) c1, .slice A2 (List.length t.2.1) c2, .slice A3 (List.length t.2.2.1) c3, .slice A4 (List.length t.2.2.2) c4], .agg #[.slice An (List.length n) cn]]) (by simp [results, Tryz.results12, go_sem, o0, o1, o2, o3, p0]) rfl ?_
 exact ⟨_, t, _, n, _, rfl, QTP, QXP, hokt, hokn, hBP⟩
set_option maxRecDepth 100000 in
set_option maxHeartbeats 2000000 in
theorem C_spec_DrawValidTrust (w : World) (v : Value) (b : List UInt8) (h : (Ty.sl .byte).rd w [v] b) :
  Calls Tryz.prog 11 #[v] w (fun e w' => ∃ cs1 t, e = .returned (.agg cs1.toArray) ∧ tTrustPolicy.rd w' cs1 t ∧ okPol t ∧ Below w.heap.size w w') := by
 obtain ⟨Ac, cc, rfl, _, _, _⟩ := Ty.rd_sl h
 go_enter Tryz.func11, Tryz.ntmps11
 go_wp2_with fail
 refine Calls.mono (C_spec_l1New _ _ b (Ty.rd_below b_10 h)) ?_
 rintro e w1 ⟨rfl, hb1, hc1⟩
 simp only [World.size_alloc] at hc1 ⊢
 have z1 := hc1.lt
 have hO1 : Blk w1 w.heap.size 29 #[.slice none 0 0, .slice none 0 0, .slice none 0 0, .slice none 0 0] := (Blk.new w _ _).below hb1 b_30
 have D1 : Dr (w.heap.size + 1) w w1 := Dr.of (bel_trans b_10 hb1) _
 clear hb1
 go_wp2_with fail
 refine Calls.mono (C_spec_l11Any _ (w.heap.size + 1) b_14) ?_
 rintro e w2 ⟨hd2, hc2, cs1, t, cs2, x, rfl, QT, QX, hokt, hokx⟩
 obtain ⟨A1, c1, A2, c2, A3, c3, A4, c4, rfl, -⟩ := rd_TrustPolicy QT.rd
 obtain ⟨B0, d0, B1, d1, B2, d2, rfl, -⟩ := rd_Data QX.rd
 have z2 := hd2.size
 have D2 := D1.trans hd2
 have hO2 := Dr.blk hd2 hO1 b_37
 clear hd2 hO1 D1 hc1
 obtain ⟨o0, o1, o2, o3, f0, f1, f2, f3⟩ := blk4 hO2
 have zO := hO2.lt
 go_wp2_with fail
 obtain ⟨wO, hwO⟩ : ∃ wO, wO = ((((w2.setCell ⟨w.heap.size, 0, none⟩ (.slice A1 (List.length t.1) c1)).setCell ⟨w.heap.size, 1, none⟩ (.slice A2 (List.length t.2.1) c2)).setCell ⟨w.heap.size, 2, none⟩ (.slice A3 (List.length t.2.2.1) c3)).setCell ⟨w.heap.size, 3, none⟩ (.slice A4 (List.length t.2.2.2) c4)) := ⟨_, rfl⟩
 obtain ⟨hOO, hK, hs, F⟩ := stored4n (v0 := .slice A1 (List.length t.1) c1) (v1 := .slice A2 (List.length t.2.1) c2) (v2 := .slice A3 (List.length t.2.2.1) c3) (v3 := .slice A4 (List.length t.2.2.2) c4) hO2 (.inl hwO)
 rw [← hwO]
 have DO := F w (w.heap.size + 1) (Nat.le_refl _) D2
 have QTO := QT.keep hs (fun q h1 h2 => hK q b_37)
 clear hwO hK hs F
 generalize hwP : (wO.alloc (.cells #[.slice A1 (List.length t.1) c1, .slice A2 (List.length t.2.1) c2, .slice A3 (List.length t.2.2.1) c3, .slice A4 (List.length t.2.2.2) c4] 29)).alloc (.cells #[.slice B0 (List.length x.1) d0, .slice B1 (List.length x.2.1) d1, .slice B2 (List.length x.2.2.1) d2, .int .i64 x.2.2.2.1, .int .i64 x.2.2.2.2] 34) = wP
 have hOP : Blk wP w.heap.size 29 #[.slice A1 (List.length t.1) c1, .slice A2 (List.length t.2.1) c2, .slice A3 (List.length t.2.2.1) c3, .slice A4 (List.length t.2.2.2) c4] := by rw [← hwP]; exact (hOO.alloc _).alloc _
 have QTP : tTrustPolicy.rd wP [.slice A1 (List.length t.1) c1, .slice A2 (List.length t.2.1) c2, .slice A3 (List.length t.2.2.1) c3, .slice A4 (List.length t.2.2.2) c4] t := by rw [← hwP]; exact ((QTO.alloc _).alloc _).rd
 have hBP : Below w.heap.size w wP := by rw [← hwP]; exact bel_alloc (bel_alloc (Dr.below DO b_37 (Nat.le_refl _)) _) _
 obtain ⟨o0, o1, o2, o3, -⟩ := blk4 hOP
 refine bodyPost_ret (v := .agg #[.slice A1 (List.length t.1) c1, .slice A2 (List.length t.2.1) c2, .slice A3 (List.length t.2.2.1) c3, .slice A4 (List.length t.2.2.2) c4]) (by simp [results, Tryz.results11, go_sem, o0, o1, o2, o3]) rfl ?_
 exact ⟨_, t, rfl, QTP, hokt, hBP⟩
set_option maxRecDepth 100000 in
set_option maxHeartbeats 2000000 in
theorem C_spec_DrawFindCertificate (w : World) (v : Value) (b : List UInt8) (h : (Ty.sl .byte).rd w [v] b) :
  Calls Tryz.prog 10 #[v] w (fun e w' => ∃ cs1 t An n cn now, e = .returned (.tuple #[.agg cs1.toArray, .agg #[.slice An (List.length n) cn], .int .i64 now]) ∧ tTrustPolicy.rd w' cs1 t ∧ (Ty.sl .str).rd w' [.slice An (List.length n) cn] n ∧ okPol t ∧ okAny n ∧ (-9223372036854775808 ≤ now ∧ now ≤ 9223372036854775807) ∧ Below w.heap.size w w') := by
 obtain ⟨Ac, cc, rfl, _, _, _⟩ := Ty.rd_sl h
 go_enter Tryz.func10, Tryz.ntmps10
 go_wp2_with fail
 refine Calls.mono (C_spec_l11Name _ _ b (Ty.rd_below b_10 h)) ?_
 rintro e w1 ⟨cs1, t, An, n, cn, rfl, QT, QX, hokt, hokn, hb1⟩
 (try simp only [World.size_alloc] at hb1 QT QX)
 have z1 := hb1.size
 have hO1 : Blk w1 w.heap.size 29 #[.slice none 0 0, .slice none 0 0, .slice none 0 0, .slice none 0 0] := ((Blk.new w _ _).alloc _).below hb1 (by (try simp only [World.size_alloc]); omega)
 have hP1 : Blk w1 (w.heap.size + 1) 32 #[.slice none 0 0] := (by have := Blk.new (w.alloc (.cells #[.slice none 0 0, .slice none 0 0, .slice none 0 0, .slice none 0 0] 29)) 32 #[.slice none 0 0]; rw [World.size_alloc] at this; exact this.below hb1 (by (try simp only [World.size_alloc]); omega))
 have hB1 : Below w.heap.size w w1 := bel_trans b_10 (hb1.mono (by (try simp only [World.size_alloc]); omega))
 obtain ⟨A1, c1, A2, c2, A3, c3, A4, c4, rfl, -⟩ := rd_TrustPolicy QT.rd
 go_wp2_with fail
 obtain ⟨w3, hw3⟩ : ∃ w3, w3 = (w1.alloc (.cells #[.slice A1 (List.length t.1) c1, .slice A2 (List.length t.2.1) c2, .slice A3 (List.length t.2.2.1) c3, .slice A4 (List.length t.2.2.2) c4] 29)).alloc (.cells #[.slice An (List.length n) cn] 32) := ⟨_, rfl⟩
 have D3 : Hid (Dr (w.heap.size + 1) w w3) := Lib.hid (by rw [hw3]; exact ((Dr.of hB1 (w.heap.size + 1)).alloc _).alloc _)
 have hT3 : Blk w3 w1.heap.size 29 #[.slice A1 (List.length t.1) c1, .slice A2 (List.length t.2.1) c2, .slice A3 (List.length t.2.2.1) c3, .slice A4 (List.length t.2.2.2) c4] := by rw [hw3]; exact (Blk.new _ _ _).alloc _
 have hN3 : Blk w3 (w1.heap.size + 1) 32 #[.slice An (List.length n) cn] := by rw [hw3]; have := Blk.new (w1.alloc (.cells #[.slice A1 (List.length t.1) c1, .slice A2 (List.length t.2.1) c2, .slice A3 (List.length t.2.2.1) c3, .slice A4 (List.length t.2.2.2) c4] 29)) 32 #[.slice An (List.length n) cn]; rw [World.size_alloc] at this; exact this
 have hO3 : Blk w3 w.heap.size 29 #[.slice none 0 0, .slice none 0 0, .slice none 0 0, .slice none 0 0] := by rw [hw3]; exact (hO1.alloc _).alloc _
 have hP3 : Blk w3 (w.heap.size + 1) 32 #[.slice none 0 0] := by rw [hw3]; exact (hP1.alloc _).alloc _
 have QT3 : RdI tTrustPolicy (w.heap.size + 1 + 1) w1.heap.size w3 [.slice A1 (List.length t.1) c1, .slice A2 (List.length t.2.1) c2, .slice A3 (List.length t.2.2.1) c3, .slice A4 (List.length t.2.2.2) c4] t := by rw [hw3]; exact (((QT.mono b_37 QT.1 (Nat.le_refl _)).alloc _).alloc _)
 have QX3 : RdI (.sl .str) (w.heap.size + 1 + 1) w1.heap.size w3 [.slice An (List.length n) cn] n := by rw [hw3]; exact (((QX.mono b_37 QX.1 (Nat.le_refl _)).alloc _).alloc _)
 rw [← hw3]
 have z3 := hN3.lt
 have zO1 := hO1.lt
 have zP1 := hP1.lt
 clear hw3 hO1 hP1 QT QX
 obtain ⟨o0, o1, o2, o3, f0, f1, f2, f3⟩ := blk4 hO3
 obtain ⟨a0, a1, a2, a3, -⟩ := blk4 hT3
 have b0 : w3.cell? ⟨w1.heap.size + 1, 0, none⟩ = some (.slice An (List.length n) cn) := hN3.cell 0
 refine wp_region_noPanic ?_
 refine wp_region_held_drew (S := (fun V => V.cell? ⟨w1.heap.size, 0, none⟩ = some (.slice A1 (List.length t.1) c1) ∧ V.cell? ⟨w1.heap.size, 1, none⟩ = some (.slice A2 (List.length t.2.1) c2) ∧ V.cell? ⟨w1.heap.size, 2, none⟩ = some (.slice A3 (List.length t.2.2.1) c3) ∧ V.cell? ⟨w1.heap.size, 3, none⟩ = some (.slice A4 (List.length t.2.2.2) c4) ∧ V.cell? ⟨w1.heap.size + 1, 0, none⟩ = some (.slice An (List.length n) cn))) b_35 ?_ (fun hHeld => ?_)
 ·exact ⟨a0, a1, a2, a3, b0⟩
 refine tkz4 0 1 2 3 ?_
 try simp only [layz]
 refine tkz2 4 5 ?_
 try simp only [layz]
 refine rz1 6 (fun K hK => ?_)
 go_simp
 refine abs_world (fun wO hw => ?_)
 obtain ⟨hOO, hK, hs, F⟩ := stored4n (v0 := .slice A1 (List.length t.1) c1) (v1 := .slice A2 (List.length t.2.1) c2) (v2 := .slice A3 (List.length t.2.2.1) c3) (v3 := .slice A4 (List.length t.2.2.2) c4) hO3 (.inr hw)
 have hPO : Blk wO (w.heap.size + 1) 32 #[.slice none 0 0] := (hK _ b_37).trans hP3
 have hTO : Blk wO w1.heap.size 29 #[.slice A1 (List.length t.1) c1, .slice A2 (List.length t.2.1) c2, .slice A3 (List.length t.2.2.1) c3, .slice A4 (List.length t.2.2.2) c4] := (hK _ b_37).trans hT3
 have hNO : Blk wO (w1.heap.size + 1) 32 #[.slice An (List.length n) cn] := (hK _ b_37).trans hN3
 have QTO := QT3.keep hs (fun q h1 h2 => hK q b_37)
 have QXO := QX3.keep hs (fun q h1 h2 => hK q b_37)
 have DO := Lib.hid (F w (w.heap.size + 1) (Nat.le_refl _) D3.out)
 clear hw hK hs F o0 o1 o2 o3 f0 f1 f2 f3 a0 a1 a2 a3 b0
 obtain ⟨a0, a1, a2, a3, -⟩ := blk4 hTO
 have b0 : wO.cell? ⟨w1.heap.size + 1, 0, none⟩ = some (.slice An (List.length n) cn) := hNO.cell 0
 obtain ⟨p0, g0, -⟩ := bk1 hPO
 have zPO := hPO.lt
 refine hK.out _ _ (⟨a0, a1, a2, a3, b0⟩) (fun hHeld => ?_)
 clear hK K
 try simp only [layz]
 refine rz1 7 (fun K hK => ?_)
 go_simp
 refine abs_world (fun wP hw => ?_)
 have hPP : Blk wP (w.heap.size + 1) 32 #[.slice An (List.length n) cn] := by rw [hw]; exact hPO.set_ 0 _
 have hOP : Blk wP w.heap.size 29 #[.slice A1 (List.length t.1) c1, .slice A2 (List.length t.2.1) c2, .slice A3 (List.length t.2.2.1) c3, .slice A4 (List.length t.2.2.2) c4] := by rw [hw]; exact hOO.far (p := ⟨w.heap.size + 1, 0, none⟩) b_34 _
 have hTP : Blk wP w1.heap.size 29 #[.slice A1 (List.length t.1) c1, .slice A2 (List.length t.2.1) c2, .slice A3 (List.length t.2.2.1) c3, .slice A4 (List.length t.2.2.2) c4] := by rw [hw]; exact hTO.far (p := ⟨w.heap.size + 1, 0, none⟩) b_34 _
 have hNP : Blk wP (w1.heap.size + 1) 32 #[.slice An (List.length n) cn] := by rw [hw]; exact hNO.far (p := ⟨w.heap.size + 1, 0, none⟩) b_34 _
 have QTP : tTrustPolicy.rd wP [.slice A1 (List.length t.1) c1, .slice A2 (List.length t.2.1) c2, .slice A3 (List.length t.2.2.1) c3, .slice A4 (List.length t.2.2.2) c4] t := by rw [hw]; exact (QTO.set (p := ⟨w.heap.size + 1, 0, none⟩) (.inl b_34) _).rd
 have QXP : (Ty.sl .str).rd wP [.slice An (List.length n) cn] n := by rw [hw]; exact (QXO.set (p := ⟨w.heap.size + 1, 0, none⟩) (.inl b_34) _).rd
 have DP : Hid (Dr (w.heap.size + 1) w wP) := Lib.hid (by rw [hw]; exact Dr.set DO.out (p := ⟨w.heap.size + 1, 0, none⟩) (.inr b_34) _)
 clear hw a0 a1 a2 a3 b0 p0 g0
 obtain ⟨a0, a1, a2, a3, -⟩ := blk4 hTP
 have b0 : wP.cell? ⟨w1.heap.size + 1, 0, none⟩ = some (.slice An (List.length n) cn) := hNP.cell 0
 refine hK.out _ _ (⟨a0, a1, a2, a3, b0⟩) (fun hHeld => ?_)
 clear hK K
 try simp only [layz]
 refine tkz 8 ?_
 try simp only [layz]
 refine wpAnyH_done b_35 ?_ _
 refine NoPanic.normal ?_
 clear a0 a1 a2 a3 b0
 obtain ⟨o0, o1, o2, o3, -⟩ := blk4 hOP
 have p0 : wP.cell? ⟨w.heap.size + 1, 0, none⟩ = some (.slice An (List.length n) cn) := hPP.cell 0
 go_wp2
 refine bodyPost_ret (v := .tuple #[.agg #[.slice A1 (List.length t.1) c1, .slice A2 (List.length t.2.1) c2, .slice A3 (List.length t.2.2.1) c3, .slice A4 (List.length t.2.2.2) c4], .agg #[.slice An (List.length n) cn], .int .i64 _]) (by simp [results, Tryz.results10, go_sem, o0, o1, o2, o3, p0]; rfl) rfl ?_
 exact ⟨_, t, _, n, _, _, rfl, QTP, QXP, hokt, hokn, wr64 _, Dr.below DP.out b_37 (Nat.le_refl _)⟩
theorem stored1n {P W : World} {g : Nat} {t : TypeId} {a v : Value} (h : Blk P g t #[a]) (hw : W = P.setCell ⟨g, 0, none⟩ v ∨ W = (P.setCell ⟨g, 0, none⟩ v).drew) :
  Blk W g t #[v] ∧ (∀ q, q ≠ g → W.heap[q]? = P.heap[q]?) ∧ P.heap.size ≤ W.heap.size ∧ ∀ (w0 : World) (B : Nat), w0.heap.size ≤ g → Dr B w0 P → Dr B w0 W := by
 have hb : Blk (P.setCell ⟨g, 0, none⟩ v) g t #[v] := Blk.set_ h 0 v
 have hk : ∀ q, q ≠ g → (P.setCell ⟨g, 0, none⟩ v).heap[q]? = P.heap[q]? := fun q hq => Below.heap_setCell _ _ _ _ hq
 have hD : ∀ (w0 : World) (B : Nat), w0.heap.size ≤ g → Dr B w0 P → Dr B w0 (P.setCell ⟨g, 0, none⟩ v) := fun w0 B h0 hd => Dr.set hd (.inr h0) v
 rcases hw with rfl | rfl
 ·exact ⟨hb, hk, by rw [World.size_setCell]; exact Nat.le_refl _, hD⟩
 ·refine ⟨hb.drew, fun q hq => ?_, by rw [World.size_drew, World.size_setCell]; exact Nat.le_refl _, fun w0 B h0 hd => (hD w0 B h0 hd).drew⟩
  rw [show ∀ V : World, V.drew.heap = V.heap from fun _ => rfl]; exact hk q hq
end Go.Proofs.YtldgbnlcnlfmeaaGreat
