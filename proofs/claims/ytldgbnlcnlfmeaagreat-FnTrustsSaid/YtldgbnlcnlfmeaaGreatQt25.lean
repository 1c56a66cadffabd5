/- Texts of this claim, merged by a program: Tan. -/
import Derived.Test.YtldgbnlcnlfmeaaGreatQtP
import Derived.Test.YtldgbnlcnlfmeaaGreatQt5
import Derived.Test.YtldgbnlcnlfmeaaGreatQt16
import Derived.Test.YtldgbnlcnlfmeaaGreatQt18
import Derived.Test.YtldgbnlcnlfmeaaGreatQt21
import Derived.Test.YtldgbnlcnlfmeaaGreatQt24
import Derived.Test.YtldgbnlcnlfmeaaGreatQt23
import Derived.Deep.RegionHeld3
namespace Go.Proofs.YtldgbnlcnlfmeaaGreat
open Go.RowKit
set_option linter.unusedVariables false
set_option linter.unusedSimpArgs false
def okPol (t : Ty.D tTrustPolicy) : Prop := Ty.bulk tTrustPolicy t ≤ 20000
def okPolX (x : Ty.D tData) : Prop := Ty.bulk tData x ≤ 1000
theorem okPol.of {a : List (Ty.D tKey)} {b : List (Ty.D tRule)} {c : List (List (List UInt8))} {d : List (Ty.D tData)} (h1 : Ty.bulk (.sl tKey) a ≤ 2000) (h2 : Ty.bulk (.sl tRule) b ≤ 2000) (h3 : Ty.bulk (.sl (.sl .str)) c ≤ 2000) (h4 : Ty.bulk (.sl tData) d ≤ 4000) : okPol (a, b, c, d) := by
 show Ty.bulk (.sl tKey) a + (Ty.bulk (.sl tRule) b + (Ty.bulk (.sl (.sl .str)) c + Ty.bulk (.sl tData) d)) ≤ 20000
 omega
theorem bulk_set0 {e : Ty} {l : List e.D} (h : 0 < l.length) {d : e.D} (hd : Ty.bulk e d = Ty.bulk e l[0]) : Ty.bulk (.sl e) (l.set 0 d) = Ty.bulk (.sl e) l := by
 cases l with
 | nil => simp at h
 | cons a r =>
  have h1 := bulk_app (e := e) [d] r
  have h2 := bulk_app (e := e) [a] r
  have h3 := bulk_one (e := e) d
  have h4 := bulk_one (e := e) a
  simp only [List.cons_append, List.nil_append] at h1 h2
  rw [List.set_cons_zero, h1, h2, h3, h4, hd]; rfl
theorem certs_bulk {l : List (Ty.D tData)} (hl : l.length ≤ 2) (h : ∀ x ∈ l, okCert x) : Ty.bulk (.sl tData) l ≤ 338 := by
 have : ∀ (l : List (Ty.D tData)), (∀ k ∈ l, okCert k) → Ty.bulk (.sl tData) l ≤ 169 * l.length := by
  intro l
  induction l with
  | nil => intro _; exact Nat.zero_le _
  | cons a l ih =>
   intro h
   have h1 := ih (fun p hp => h p (List.mem_cons_of_mem _ hp))
   have h2 := data_bulk (okCert_valid (h a (List.mem_cons_self ..))).1
   have h3 := bulk_app (e := tData) [a] l
   have h4 := bulk_one (e := tData) a
   simp only [List.cons_append, List.nil_append] at h3
   rw [List.length_cons]
   omega
 have := this l h
 omega
theorem kdg6 (l : List (Ty.D tKey)) (n : List (List UInt8)) : Ty.bulk (.sl .byte) (f_KeyDigest l n) ≤ 6 := by
 rw [Ty.bulk_flat (fun _ => rfl)]
 unfold f_KeyDigest
 split
 ·simp
 ·have := appendVarint_len [] (digest [f_SecretOf l n])
  simp only [List.length_nil] at this
  omega
theorem iss_bulk (l : List (Ty.D tKey)) {n by_ : List (List UInt8)} (till : Int) (hn : Ty.bulk (.sl .str) n ≤ 100) (hb : Ty.bulk (.sl .str) by_ ≤ 100) : Ty.bulk tData (f0_IssueCertificate l n by_ till) ≤ 206 := by
 unfold f0_IssueCertificate f0_SignWithKey
 have hk := kdg6 l n
 split
 ·have h2 : Ty.bulk tData (swkX l by_ n (f_KeyDigest l n) till) = Ty.bulk (.sl .str) n + (Ty.bulk (.sl .byte) (f_KeyDigest l n) + Ty.bulk (.sl .str) by_) := swk_bulk by_ n (f_KeyDigest l n) till
  rw [h2]; omega
 ·exact Nat.zero_le _
theorem blk4 {w : World} {g : Nat} {t : TypeId} {a b c d : Value} (h : Blk w g t #[a, b, c, d]) : w.cell? ⟨g, 0, none⟩ = some a ∧ w.cell? ⟨g, 1, none⟩ = some b ∧ w.cell? ⟨g, 2, none⟩ = some c ∧ w.cell? ⟨g, 3, none⟩ = some d ∧
  w.frozen? ⟨g, 0, none⟩ = false ∧ w.frozen? ⟨g, 1, none⟩ = false ∧ w.frozen? ⟨g, 2, none⟩ = false ∧ w.frozen? ⟨g, 3, none⟩ = false := ⟨h.cell 0, h.cell 1, h.cell 2, h.cell 3, h.f1, h.f1, h.f1, h.f1⟩
theorem keep4 (W : World) (g : Nat) (v0 v1 v2 v3 : Value) {q : Nat} (h : q ≠ g) : ((((W.setCell ⟨g, 0, none⟩ v0).setCell ⟨g, 1, none⟩ v1).setCell ⟨g, 2, none⟩ v2).setCell ⟨g, 3, none⟩ v3).heap[q]? = W.heap[q]? := by
 rw [Below.heap_setCell _ _ _ _ h, Below.heap_setCell _ _ _ _ h, Below.heap_setCell _ _ _ _ h, Below.heap_setCell _ _ _ _ h]
theorem stored4 {P W : World} {g : Nat} {t : TypeId} {a b c d v0 v1 v2 v3 : Value} (h : Blk P g t #[a, b, c, d]) (hw : W = ((((P.setCell ⟨g, 0, none⟩ v0).setCell ⟨g, 1, none⟩ v1).setCell ⟨g, 2, none⟩ v2).setCell ⟨g, 3, none⟩ v3) ∨ W = ((((P.setCell ⟨g, 0, none⟩ v0).setCell ⟨g, 1, none⟩ v1).setCell ⟨g, 2, none⟩ v2).setCell ⟨g, 3, none⟩ v3).drew)
  {B : Nat} (hB : B < g) (hc : CurT P B) : Blk W g t #[v0, v1, v2, v3] ∧ (∀ q, q ≠ g → W.heap[q]? = P.heap[q]?) ∧ P.heap.size ≤ W.heap.size ∧ CurT W B ∧ ∀ w0 : World, w0.heap.size ≤ g → Dr B w0 P → Dr B w0 W := by
 have hb : Blk ((((P.setCell ⟨g, 0, none⟩ v0).setCell ⟨g, 1, none⟩ v1).setCell ⟨g, 2, none⟩ v2).setCell ⟨g, 3, none⟩ v3) g t #[v0, v1, v2, v3] := (Blk.set_ (Blk.set_ (Blk.set_ (Blk.set_ h 0 v0) 1 v1) 2 v2) 3 v3)
 have hC : CurT ((((P.setCell ⟨g, 0, none⟩ v0).setCell ⟨g, 1, none⟩ v1).setCell ⟨g, 2, none⟩ v2).setCell ⟨g, 3, none⟩ v3) B := Cur.far (Cur.far (Cur.far (Cur.far hc hB v0) hB v1) hB v2) hB v3
 have hD : ∀ w0 : World, w0.heap.size ≤ g → Dr B w0 P → Dr B w0 ((((P.setCell ⟨g, 0, none⟩ v0).setCell ⟨g, 1, none⟩ v1).setCell ⟨g, 2, none⟩ v2).setCell ⟨g, 3, none⟩ v3) := fun w0 h0 hd => Dr.set (Dr.set (Dr.set (Dr.set hd (.inr h0) v0) (.inr h0) v1) (.inr h0) v2) (.inr h0) v3
 rcases hw with rfl | rfl
 ·exact ⟨hb, fun q hq => keep4 _ _ _ _ _ _ hq, by simp only [World.size_setCell]; exact Nat.le_refl _, hC, hD⟩
 ·exact ⟨hb.drew, fun q hq => by rw [show ∀ V : World, V.drew.heap = V.heap from fun _ => rfl]; exact keep4 _ _ _ _ _ _ hq, by simp only [World.size_setCell, World.size_drew]; exact Nat.le_refl _, hC.drew, fun w0 h0 hd => (hD w0 h0 hd).drew⟩
theorem until_set {u : Int} (hu : -9223372036854775808 ≤ u ∧ u ≤ 9223372036854775807) (x : Ty.D tData) (W : World) (ds : List Value) (h : tData.rd W ds x) : tData.rd W (ds.set 3 (.int .i64 u)) (x.1, x.2.1, x.2.2.1, u, x.2.2.2.2) := by
 obtain ⟨A0, c0, A1, c1, A2, c2, rfl, g0, g1, g2, -, g4⟩ := rd_Data h
 exact ⟨[_], _, rfl, g0, [_], _, rfl, g1, [_], _, rfl, g2, [_], [_], rfl, ⟨rfl, hu⟩, ⟨rfl, g4⟩⟩
theorem wp_hold {P : Program} {s c : Code} {K : Act → World → Prop} {Q : Exit → Act → World → Prop} {a : Act} {w : World} (hk : ∀ a w, c.wp P Q a w → K a w) (h : ∀ K' : Act → World → Prop, Hid (∀ a w, c.wp P Q a w → K' a w) → s.wp P (Exit.then K' Q) a w) : s.wp P (Exit.then K Q) a w := h K (Lib.hid hk)
def l11J (w : World) (B gT gX lo : Nat) (wx : World) : Prop := ∃ A1 c1 A2 c2 A3 c3 A4 c4, ∃ t : Ty.D tTrustPolicy, ∃ B0 d0 B1 d1 B2 d2, ∃ x : Ty.D tData, Blk wx w.heap.size 29 #[.slice none 0 0, .slice none 0 0, .slice none 0 0, .slice none 0 0] ∧ Blk wx (w.heap.size + 1) 34 #[.slice none 0 0, .slice none 0 0, .slice none 0 0, .int .i64 0, .int .i64 0] ∧ Blk wx gT 29 #[.slice A1 (List.length t.1) c1, .slice A2 (List.length t.2.1) c2, .slice A3 (List.length t.2.2.1) c3, .slice A4 (List.length t.2.2.2) c4] ∧ Blk wx gX 34 #[.slice B0 (List.length x.1) d0, .slice B1 (List.length x.2.1) d1, .slice B2 (List.length x.2.2.1) d2, .int .i64 x.2.2.2.1, .int .i64 x.2.2.2.2] ∧ CurT wx B ∧ Dr B w wx ∧
 RdI tTrustPolicy lo wx.heap.size wx [.slice A1 (List.length t.1) c1, .slice A2 (List.length t.2.1) c2, .slice A3 (List.length t.2.2.1) c3, .slice A4 (List.length t.2.2.2) c4] t ∧ RdI tData lo wx.heap.size wx [.slice B0 (List.length x.1) d0, .slice B1 (List.length x.2.1) d1, .slice B2 (List.length x.2.2.1) d2, .int .i64 x.2.2.2.1, .int .i64 x.2.2.2.2] x ∧ okPol t ∧ okPolX x
set_option maxRecDepth 100000 in
set_option maxHeartbeats 8000000 in
theorem C_spec_l11Any (w : World) (B : Nat) (hc : CurT w B) :
  Calls Tryz.prog 60 #[pB B] w (RetDT B w (fun e w' => ∃ cs1 t cs2 x, e = .returned (.tuple #[.agg cs1.toArray, .agg cs2.toArray]) ∧ RdI tTrustPolicy w.heap.size w'.heap.size w' cs1 t ∧ RdI tData w.heap.size w'.heap.size w' cs2 x ∧ okPol t ∧ okPolX x)) := by
 have hB := hc.lt
 go_enter Tryz.func60, Tryz.ntmps60
 go_wp2_with fail
 obtain ⟨w1, hw1⟩ : ∃ w1, w1 = (w.alloc (.cells #[.slice none 0 0, .slice none 0 0, .slice none 0 0, .slice none 0 0] 29)).alloc (.cells #[.slice none 0 0, .slice none 0 0, .slice none 0 0, .int .i64 0, .int .i64 0] 34) := ⟨_, rfl⟩
 have E1 : Dr B w w1 := by rw [hw1]; exact b_5
 have hc1 : CurT w1 B := by rw [hw1]; exact b_14
 have hO1 : Blk w1 w.heap.size 29 #[.slice none 0 0, .slice none 0 0, .slice none 0 0, .slice none 0 0] := by rw [hw1]; exact (Blk.new _ _ _).alloc _
 have hP1 : Blk w1 (w.heap.size + 1) 34 #[.slice none 0 0, .slice none 0 0, .slice none 0 0, .int .i64 0, .int .i64 0] := by rw [hw1]; have := Blk.new (w.alloc (.cells #[.slice none 0 0, .slice none 0 0, .slice none 0 0, .slice none 0 0] 29)) 34 #[.slice none 0 0, .slice none 0 0, .slice none 0 0, .int .i64 0, .int .i64 0]; rw [World.size_alloc] at this; exact this
 have z1 : w1.heap.size = w.heap.size + 2 := by rw [hw1, World.size_alloc, World.size_alloc]
 rw [← hw1]
 clear hw1
 refine Calls.mono (C_spec_l11TrustG _ B hc1) ?_
 rintro e w2 ⟨hd2, hc2, v1, v2, A3, v4, t, f1, f2, f3, m1, m2, rfl, p1, p2, p3, G2, hf1, hf3, hf2, hm1, hm2, hm3, hok⟩
 have z2 := hd2.size
 obtain ⟨A1, c1, e1⟩ := Ty.ow_slv p1
 obtain ⟨A2, c2, e2⟩ := Ty.ow_slv p2
 obtain ⟨A4, c4, rfl⟩ := G2.form
 simp only [List.cons.injEq, and_true] at e1 e2
 subst e1 e2
 have q1 : RdI (.sl tKey) w1.heap.size m1 w2 _ t.1 := RdI.of_ow p1 (fun b hb => hf1.2 b hb) b_37
 have q2 : RdI (.sl tRule) m1 m2 w2 _ t.2.1 := RdI.of_ow p2 (fun b hb => hf2.2 b hb) b_37
 have q3 : RdI (.sl (.sl .str)) w1.heap.size m1 w2 _ t.2.2.1 := RdI.of_ow p3 (fun b hb => hf3.2 b hb) b_37
 have hb1 : Ty.bulk (.sl tKey) t.1 ≤ 2000 := by rw [hok.1]; decide
 have hb2 : Ty.bulk (.sl tRule) t.2.1 ≤ 2000 := by rw [hok.2.1]; decide
 have hb3 : Ty.bulk (.sl (.sl .str)) t.2.2.1 ≤ 100 := by rw [hok.2.2.1]; decide
 have hb4 : Ty.bulk (.sl tData) t.2.2.2 ≤ 338 := certs_bulk hok.2.2.2.1 hok.2.2.2.2
 have HL3 : Hid (1 = List.length t.2.2.1) := Lib.hid (by rw [hok.2.2.1]; rfl)
 have hl4 := hok.2.2.2.1
 obtain ⟨n1, hn1⟩ : ∃ n, n = List.length t.1 := ⟨_, rfl⟩
 have hkT : (Ty.sl tKey).rd (hide B w2) [.slice A1 n1 c1] t.1 := by rw [hn1]; exact q1.hide b_37
 have HK4 := Lib.hid hok.1
 rw [hok.1] at hkT
 subst hn1
 have hbl2 := G2.block
 have q4 := G2.rdI
 have GX := Lib.hid (GRow.addEx (g := w2.heap.size) G2 (Nat.le_refl _))
 obtain ⟨wT, hwT⟩ : ∃ wT, wT = w2.alloc (.cells #[.slice A1 (List.length t.1) c1, .slice A2 (List.length t.2.1) c2, .slice A3 1 1, .slice A4 (List.length t.2.2.2) c4] 29) := ⟨_, rfl⟩
 have ET : Dr B w2 wT := by rw [hwT]; exact new_dr B w2 _
 have hcT : CurT wT B := by rw [hwT]; exact Cur.alloc hc2 _
 have hTT : Blk wT w2.heap.size 29 #[.slice A1 (List.length t.1) c1, .slice A2 (List.length t.2.1) c2, .slice A3 1 1, .slice A4 (List.length t.2.2.2) c4] := by rw [hwT]; exact Blk.new _ _ _
 have zT := hTT.lt
 have D2 := Lib.hid (E1.trans hd2)
 have hO2 := Dr.blk hd2 hO1 b_37
 have hP2 := Dr.blk hd2 hP1 b_37
 clear hd2 E1 hO1 hP1 p1 p2 p3 G2 hf1 hf2 hf3 hok hc1 hc2
 go_upto_region 2 with fail
 refine wp_hold (by assumption) (fun K2 HK2 => ?_)
 go_wp2_with fail
 rw [← hwT]
 clear hwT
 refine Calls.mono (C_spec_l11Made _ B hcT _ _ _ _ _ _ _ _ _ _ _ _ (Dr.rd ET hkT)) ?_
 rintro e w3 ⟨hd3, hc3, cs3, x, rfl, hQ3, hmk⟩
 obtain ⟨B0, d0, B1, d1, B2, d2, rfl, -, -, -, -, -⟩ := rd_Data hQ3.rd
 have z3 := hd3.size
 have E3 : Dr B w2 w3 := ET.trans hd3
 have hT3 := Dr.blk hd3 hTT b_37
 have hxb : okPolX x := by have := hmk.2.1; unfold okPolX; omega
 have GY := Lib.hid (GRow.addEx (g := w3.heap.size) (GX.out.dr E3 b_37) (Nat.le_refl _))
 clear hd3 hkT hTT ET hcT hmk GX
 go_wp2_with fail
 refine HK2.out _ _ ?_
 apply wp_seq_k; intro _ _
 go_cut [] (fun wx => l11J w B w2.heap.size w3.heap.size w1.heap.size wx)
 case first =>
  go_wp2_with fail
  refine Calls.mono (C_spec_l1Below _ B 14 b_14 b_36 b_36) ?_
  rintro e w4 ⟨hd4, hc4, k, rfl, hk0, hk1⟩
  have z4 := hd4.size
  simp only [World.size_alloc] at z4
  have E4 : Dr B w3 w4 := b_5
  have F4 : Dr B w2 w4 := E3.trans E4
  have D4 := Lib.hid (D2.out.trans F4)
  have hX4 : Blk w4 w3.heap.size 34 #[.slice B0 (List.length x.1) d0, .slice B1 (List.length x.2.1) d1, .slice B2 (List.length x.2.2.1) d2, .int .i64 x.2.2.2.1, .int .i64 x.2.2.2.2] := Dr.blk hd4 (Blk.new w3 _ _) b_37
  have hT4 := Dr.blk E4 hT3 b_37
  have hO4 := Dr.blk F4 hO2 b_37
  have hP4 := Dr.blk F4 hP2 b_37
  have q1 := q1.dr F4 b_37
  have q2 := q2.dr F4 b_37
  have q3 := q3.dr F4 b_37
  have q4 := q4.dr F4 b_37
  have qx := hQ3.dr E4 b_37
  have HG := Lib.hid (GY.out.dr E4 b_37)
  clear hd4 E3 E4 F4 hT3 hO2 hP2 hQ3 GY D2 hc3
  have zO4 := hO4.lt
  have zT4 := hT4.lt
  have zX4 := hX4.lt
  obtain ⟨kT0, kT1, kT2, kT3, kF0, kF1, kF2, kF3⟩ := blk4 hT4
  obtain ⟨kX0, kX1, kX2, kX3, kX4, kY0, kY1, kY2, kY3, kY4⟩ := blk5 hX4
  have hcase : k = 0 ∨ k = 1 ∨ k = 2 ∨ k = 3 ∨ k = 4 ∨ k = 5 ∨ k = 6 ∨ (k ≠ 0 ∧ k ≠ 1 ∧ k ≠ 2 ∧ k ≠ 3 ∧ k ≠ 4 ∧ k ≠ 5 ∧ k ≠ 6) := by omega
  rcases hcase with rfl | rfl | rfl | rfl | rfl | rfl | rfl | hk
  ·go_wp2_with fail
   refine Calls.mono (C_spec_l10Any _ B b_14) ?_
   rintro e w5 ⟨hd5, hc5, A, l, c, rfl, hQ, hokl⟩
   have z5 := hd5.size
   (try simp only [szz] at z5)
   have E5 : Dr B w4 w5 := b_5
   have D5 := Lib.hid (D4.out.trans E5)
   have hlb := rules_bulk hokl
   clear hd5
   have hO5 := Dr.blk E5 hO4 b_37
   have hP5 := Dr.blk E5 hP4 b_37
   have hT5 := Dr.blk E5 hT4 b_37
   have hX5 := Dr.blk E5 hX4 b_37
   have q1 := q1.dr E5 b_37
   have q2 := q2.dr E5 b_37
   have q3 := q3.dr E5 b_37
   have qx := qx.dr E5 b_37
   have HG5 := Lib.hid (HG.out.dr E5 b_37)
   have zT5 := hT5.lt
   have zX5 := hX5.lt
   clear kT0 kT1 kT2 kT3 kF0 kF1 kF2 kF3 kX0 kX1 kX2 kX3 kX4 kY0 kY1 kY2 kY3 kY4
   obtain ⟨kT0, kT1, kT2, kT3, kF0, kF1, kF2, kF3⟩ := blk4 hT5
   obtain ⟨kX0, kX1, kX2, kX3, kX4, kY0, kY1, kY2, kY3, kY4⟩ := blk5 hX5
   have hO9 := hO5.far (p := ⟨w2.heap.size, 1, none⟩) b_34 (.slice A (List.length l) c)
   have hP9 := hP5.far (p := ⟨w2.heap.size, 1, none⟩) b_34 (.slice A (List.length l) c)
   have hT9 := hT5.set_ 1 (.slice A (List.length l) c)
   have hX9 := hX5.far (p := ⟨w2.heap.size, 1, none⟩) b_34 (.slice A (List.length l) c)
   have C9 := Cur.far hc5 (p := ⟨w2.heap.size, 1, none⟩) b_34 (.slice A (List.length l) c)
   have D9 := Dr.set D5.out (p := ⟨w2.heap.size, 1, none⟩) (.inr b_34) (.slice A (List.length l) c)
   have r1 := q1.set (p := ⟨w2.heap.size, 1, none⟩) (.inr b_34) (.slice A (List.length l) c)
   have r2 := (hQ).set (p := ⟨w2.heap.size, 1, none⟩) (.inl b_34) (.slice A (List.length l) c)
   have r3 := q3.set (p := ⟨w2.heap.size, 1, none⟩) (.inr b_34) (.slice A (List.length l) c)
   have r4 := (GRow.set HG5.out (p := ⟨w2.heap.size, 1, none⟩) (.inr b_38) (.slice A (List.length l) c)).rdI
   have rx := qx.set (p := ⟨w2.heap.size, 1, none⟩) (.inl b_34) (.slice A (List.length l) c)
   go_wp2_with fail
   generalize (w5.setCell ⟨w2.heap.size, 1, none⟩ (.slice A (List.length l) c)) = w9 at hO9 hP9 hT9 hX9 C9 D9 r1 r2 r3 r4 rx ⊢
   have r3 : RdI (.sl (.sl .str)) w1.heap.size m1 w9 [.slice A3 (List.length t.2.2.1) 1] t.2.2.1 := by rw [← HL3.out]; exact r3
   have hT9 : Blk w9 w2.heap.size 29 #[.slice A1 (List.length t.1) c1, .slice A (List.length l) c, .slice A3 (List.length t.2.2.1) 1, .slice A4 (List.length t.2.2.2) c4] := by rw [← HL3.out]; exact hT9
   have QT : RdI tTrustPolicy w1.heap.size w9.heap.size w9 [.slice A1 (List.length t.1) c1, .slice A (List.length l) c, .slice A3 (List.length t.2.2.1) 1, .slice A4 (List.length t.2.2.2) c4] (t.1, l, t.2.2) := RdI.pr (r1.mono b_37 r1.1 (Nat.le_refl _)) (RdI.pr (r2.mono b_37 r2.1 (Nat.le_refl _)) (RdI.pr (r3.mono b_37 r3.1 (Nat.le_refl _)) (r4.mono b_37 r4.1 (Nat.le_refl _))))
   have QX := rx.mono (lo' := w1.heap.size) b_37 rx.1 (Nat.le_refl _)
   go_meet
   exact ⟨_, _, _, _, _, _, _, _, (t.1, l, t.2.2), _, _, _, _, _, _, x, hO9, hP9, hT9, hX9, C9, D9, QT, QX, okPol.of hb1 b_37 (Nat.le_trans hb3 b_36) (Nat.le_trans hb4 b_36), hxb⟩
  ·go_wp2_with fail
   have HG4 := HG
   have hO9 := hO4.far (p := ⟨w2.heap.size, 2, none⟩) b_34 (.slice (some ⟨w4.heap.size, 0, none⟩) 0 0)
   have hP9 := hP4.far (p := ⟨w2.heap.size, 2, none⟩) b_34 (.slice (some ⟨w4.heap.size, 0, none⟩) 0 0)
   have hT9 := hT4.set_ 2 (.slice (some ⟨w4.heap.size, 0, none⟩) 0 0)
   have hX9 := hX4.far (p := ⟨w2.heap.size, 2, none⟩) b_34 (.slice (some ⟨w4.heap.size, 0, none⟩) 0 0)
   have C9 := Cur.far hc4 (p := ⟨w2.heap.size, 2, none⟩) b_34 (.slice (some ⟨w4.heap.size, 0, none⟩) 0 0)
   have D9 := Dr.set D4.out (p := ⟨w2.heap.size, 2, none⟩) (.inr b_34) (.slice (some ⟨w4.heap.size, 0, none⟩) 0 0)
   have r1 := q1.set (p := ⟨w2.heap.size, 2, none⟩) (.inr b_34) (.slice (some ⟨w4.heap.size, 0, none⟩) 0 0)
   have r2 := q2.set (p := ⟨w2.heap.size, 2, none⟩) (.inr b_34) (.slice (some ⟨w4.heap.size, 0, none⟩) 0 0)
   have r3 := (RdI.nil (lo := w1.heap.size) (hi := w1.heap.size) (.sl .str) (w := w4) (some ⟨w4.heap.size, 0, none⟩) b_37).set (p := ⟨w2.heap.size, 2, none⟩) (.inr b_34) (.slice (some ⟨w4.heap.size, 0, none⟩) 0 0)
   have r4 := (GRow.set HG4.out (p := ⟨w2.heap.size, 2, none⟩) (.inr b_38) (.slice (some ⟨w4.heap.size, 0, none⟩) 0 0)).rdI
   have rx := qx.set (p := ⟨w2.heap.size, 2, none⟩) (.inl b_34) (.slice (some ⟨w4.heap.size, 0, none⟩) 0 0)
   have hO9 := hO9.alloc (.cells #[] 32)
   have hP9 := hP9.alloc (.cells #[] 32)
   have hT9 := hT9.alloc (.cells #[] 32)
   have hX9 := hX9.alloc (.cells #[] 32)
   have r1 := r1.alloc (.cells #[] 32)
   have r2 := r2.alloc (.cells #[] 32)
   have r3 := r3.alloc (.cells #[] 32)
   have r4 := r4.alloc (.cells #[] 32)
   have rx := rx.alloc (.cells #[] 32)
   have C9 := Cur.alloc C9 (.cells #[] 32)
   have D9 := Dr.alloc D9 (.cells #[] 32)
   clear kT0 kT1 kT2 kT3 kF0 kF1 kF2 kF3 kX0 kX1 kX2 kX3 kX4 kY0 kY1 kY2 kY3 kY4
   generalize ((w4.setCell ⟨w2.heap.size, 2, none⟩ (.slice (some ⟨w4.heap.size, 0, none⟩) 0 0)).alloc (.cells #[] 32)) = w9 at hO9 hP9 hT9 hX9 C9 D9 r1 r2 r3 r4 rx ⊢
   have QT : RdI tTrustPolicy w1.heap.size w9.heap.size w9 [.slice A1 (List.length t.1) c1, .slice A2 (List.length t.2.1) c2, .slice (some ⟨w4.heap.size, 0, none⟩) 0 0, .slice A4 (List.length t.2.2.2) c4] (t.1, t.2.1, [], t.2.2.2) := RdI.pr (r1.mono b_37 r1.1 (Nat.le_refl _)) (RdI.pr (r2.mono b_37 r2.1 (Nat.le_refl _)) (RdI.pr (r3.mono b_37 r3.1 (Nat.le_refl _)) (r4.mono b_37 r4.1 (Nat.le_refl _))))
   have QX := rx.mono (lo' := w1.heap.size) b_37 rx.1 (Nat.le_refl _)
   go_meet
   exact ⟨_, _, _, _, _, _, _, _, (t.1, t.2.1, [], t.2.2.2), _, _, _, _, _, _, x, hO9, hP9, hT9, hX9, C9, D9, QT, QX, okPol.of hb1 hb2 (Nat.zero_le _) (Nat.le_trans hb4 b_36), hxb⟩
  ·go_wp2_with fail
   refine Calls.mono (C_spec_l9Any _ B b_14) ?_
   rintro e w5 ⟨hd5, hc5, A, l, c, rfl, hQ, hokl⟩
   have z5 := hd5.size
   (try simp only [szz] at z5)
   have E5 : Dr B w4 w5 := b_5
   have D5 := Lib.hid (D4.out.trans E5)
   have hlb := keys_bulk hokl
   clear hokl
   clear hd5
   have hO5 := Dr.blk E5 hO4 b_37
   have hP5 := Dr.blk E5 hP4 b_37
   have hT5 := Dr.blk E5 hT4 b_37
   have hX5 := Dr.blk E5 hX4 b_37
   have q1 := q1.dr E5 b_37
   have q2 := q2.dr E5 b_37
   have q3 := q3.dr E5 b_37
   have qx := qx.dr E5 b_37
   have HG5 := Lib.hid (HG.out.dr E5 b_37)
   have zT5 := hT5.lt
   have zX5 := hX5.lt
   clear kT0 kT1 kT2 kT3 kF0 kF1 kF2 kF3 kX0 kX1 kX2 kX3 kX4 kY0 kY1 kY2 kY3 kY4
   obtain ⟨kT0, kT1, kT2, kT3, kF0, kF1, kF2, kF3⟩ := blk4 hT5
   obtain ⟨kX0, kX1, kX2, kX3, kX4, kY0, kY1, kY2, kY3, kY4⟩ := blk5 hX5
   have hO9 := hO5.far (p := ⟨w2.heap.size, 0, none⟩) b_34 (.slice A (List.length l) c)
   have hP9 := hP5.far (p := ⟨w2.heap.size, 0, none⟩) b_34 (.slice A (List.length l) c)
   have hT9 := hT5.set_ 0 (.slice A (List.length l) c)
   have hX9 := hX5.far (p := ⟨w2.heap.size, 0, none⟩) b_34 (.slice A (List.length l) c)
   have C9 := Cur.far hc5 (p := ⟨w2.heap.size, 0, none⟩) b_34 (.slice A (List.length l) c)
   have D9 := Dr.set D5.out (p := ⟨w2.heap.size, 0, none⟩) (.inr b_34) (.slice A (List.length l) c)
   have r1 := (hQ).set (p := ⟨w2.heap.size, 0, none⟩) (.inl b_34) (.slice A (List.length l) c)
   have r2 := q2.set (p := ⟨w2.heap.size, 0, none⟩) (.inr b_34) (.slice A (List.length l) c)
   have r3 := q3.set (p := ⟨w2.heap.size, 0, none⟩) (.inr b_34) (.slice A (List.length l) c)
   have r4 := (GRow.set HG5.out (p := ⟨w2.heap.size, 0, none⟩) (.inr b_38) (.slice A (List.length l) c)).rdI
   have rx := qx.set (p := ⟨w2.heap.size, 0, none⟩) (.inl b_34) (.slice A (List.length l) c)
   go_wp2_with fail
   generalize (w5.setCell ⟨w2.heap.size, 0, none⟩ (.slice A (List.length l) c)) = w9 at hO9 hP9 hT9 hX9 C9 D9 r1 r2 r3 r4 rx ⊢
   have r3 : RdI (.sl (.sl .str)) w1.heap.size m1 w9 [.slice A3 (List.length t.2.2.1) 1] t.2.2.1 := by rw [← HL3.out]; exact r3
   have hT9 : Blk w9 w2.heap.size 29 #[.slice A (List.length l) c, .slice A2 (List.length t.2.1) c2, .slice A3 (List.length t.2.2.1) 1, .slice A4 (List.length t.2.2.2) c4] := by rw [← HL3.out]; exact hT9
   have QT : RdI tTrustPolicy w1.heap.size w9.heap.size w9 [.slice A (List.length l) c, .slice A2 (List.length t.2.1) c2, .slice A3 (List.length t.2.2.1) 1, .slice A4 (List.length t.2.2.2) c4] (l, t.2) := RdI.pr (r1.mono b_37 r1.1 (Nat.le_refl _)) (RdI.pr (r2.mono b_37 r2.1 (Nat.le_refl _)) (RdI.pr (r3.mono b_37 r3.1 (Nat.le_refl _)) (r4.mono b_37 r4.1 (Nat.le_refl _))))
   have QX := rx.mono (lo' := w1.heap.size) b_37 rx.1 (Nat.le_refl _)
   go_meet
   exact ⟨_, _, _, _, _, _, _, _, (l, t.2), _, _, _, _, _, _, x, hO9, hP9, hT9, hX9, C9, D9, QT, QX, okPol.of b_37 hb2 (Nat.le_trans hb3 b_36) (Nat.le_trans hb4 b_36), hxb⟩
  ·by_cases h0 : 0 < List.length t.2.2.2
   ·obtain ⟨g, ds, rfl, -, -, -, hgb, -, -⟩ := HG.out.at h0
    have hi0 : (0 : Int) < (List.length t.2.2.2 : Int) := by omega
    have HCC : Hid (∀ V, Dr B w4 V → V.cell? ⟨w2.heap.size, 3, none⟩ = some (.slice (some ⟨g, 0, none⟩) (List.length t.2.2.2) c4)) := fun V hV => (Dr.blk hV hT4 b_37).cell 3
    go_wp2_with fail
    refine wp_region_noPanic ?_
    refine wp_region_held_drew (S := (fun V => V.cell? ⟨w2.heap.size, 3, none⟩ = some (.slice (some ⟨g, 0, none⟩) (List.length t.2.2.2) c4))) b_35 ?_ (fun hHeld => ?_)
    ·exact hT4.cell 3
    refine tkz3 0 2 1 ?_
    try simp only [layz]
    refine rz1 3 (fun K hK => ?_)
    go_simp
    refine abs_world (fun w5 hw5 => ?_)
    obtain ⟨E5, hc5, z5⟩ := nz hw5 hc4
    have HL5 := Lib.hid (show RdI (.sl .int) w4.heap.size (w4.heap.size + 1) w5 [.slice (some ⟨w4.heap.size, 0, none⟩) 3 3] [(40 : Int), (5000 : Int), (-1 : Int)] by rw [hw5]; exact b_7)
    clear hw5
    refine hK.out _ _ (HCC.out _ (drz E5)) (fun hHeld => ?_)
    clear hK K
    try simp only [layz]
    refine rz1 4 (fun K hK => ?_)
    go_simp
    go_at_call 64
    refine Calls.mono (C_spec_l1Int _ B _ [40, 5000, -1] (cuz hc5) (HL5.out.hide b_37) b_36 b_36) ?_
    rintro e w6 ⟨hd6, hc6, s, hs, rfl⟩
    obtain ⟨E6, z6⟩ := ez w5 hd6
    have hnew : -9223372036854775808 ≤ s ∧ s ≤ 9223372036854775807 := by have := mem_word hs b_36; omega
    clear hs
    have F6 : Dr B w4 w6 := (drz (E5.trans E6))
    have D6 := Lib.hid (D4.out.trans F6)
    have hO6 := Dr.blk F6 hO4 b_37
    have hP6 := Dr.blk F6 hP4 b_37
    have hT6 := Dr.blk F6 hT4 b_37
    have hX6 := Dr.blk F6 hX4 b_37
    have q1 := q1.dr F6 b_37
    have q2 := q2.dr F6 b_37
    have q3 := q3.dr F6 b_37
    have qx := qx.dr F6 b_37
    have HG6 := Lib.hid (HG.out.dr F6 b_37)
    have zT6 := hT6.lt
    have zX6 := hX6.lt
    obtain ⟨g6, ds6, hA6, hl6, hcell6, hfr6, hgb6, hrd6, -⟩ := HG6.out.at h0
    simp only [Option.some.injEq, Addr.mk.injEq, and_true] at hA6
    subst hA6
    obtain ⟨G0, _, G1, _, G2, _, rfl, -, -, -, -, -⟩ := rd_Data hrd6
    have e7 : w6.cell? ⟨g, 3, none⟩ = some (.int .i64 (t.2.2.2[0]).2.2.2.1) := by simpa [Ty.sz] using hcell6 3 b_36
    have f7 : w6.frozen? ⟨g, 3, none⟩ = false := hfr6 3
    have zg := hgb6.2.1
    clear hcell6 hfr6 hrd6 hl6
    clear hd6
    refine hK.out _ _ (HCC.out _ (drz (E5.trans E6))) (fun hHeld => ?_)
    clear hK K
    try simp only [layz]
    refine tkz2 5 6 ?_
    try simp only [layz]
    refine rz1 7 (fun K hK => ?_)
    go_simp
    refine abs_world (fun w9 hw9 => ?_)
    have hgx : g < w2.heap.size ∧ m2 ≤ g := ⟨(hbl2 g rfl).2.1, (hbl2 g rfl).1⟩
    have hO9 : Blk w9 w.heap.size 29 #[.slice none 0 0, .slice none 0 0, .slice none 0 0, .slice none 0 0] := by rw [hw9]; exact hO6.far (p := ⟨g, 3, none⟩) b_34 _
    have hP9 : Blk w9 (w.heap.size + 1) 34 #[.slice none 0 0, .slice none 0 0, .slice none 0 0, .int .i64 0, .int .i64 0] := by rw [hw9]; exact hP6.far (p := ⟨g, 3, none⟩) b_34 _
    have hT9 : Blk w9 w2.heap.size 29 #[.slice A1 (List.length t.1) c1, .slice A2 (List.length t.2.1) c2, .slice A3 1 1, .slice (some ⟨g, 0, none⟩) (List.length t.2.2.2) c4] := by rw [hw9]; exact hT6.far (p := ⟨g, 3, none⟩) b_34 _
    have hX9 : Blk w9 w3.heap.size 34 #[.slice B0 (List.length x.1) d0, .slice B1 (List.length x.2.1) d1, .slice B2 (List.length x.2.2.1) d2, .int .i64 x.2.2.2.1, .int .i64 x.2.2.2.2] := by rw [hw9]; exact hX6.far (p := ⟨g, 3, none⟩) b_34 _
    have C9 : CurT w9 B := by rw [hw9]; exact Cur.far hc6 (p := ⟨g, 3, none⟩) b_34 _
    have D9 : Dr B w w9 := by rw [hw9]; exact Dr.set D6.out (p := ⟨g, 3, none⟩) (.inr b_34) _
    have r1 : RdI (.sl tKey) w1.heap.size m1 w9 [.slice A1 (List.length t.1) c1] t.1 := by rw [hw9]; exact q1.set (p := ⟨g, 3, none⟩) (.inr b_34) _
    have r2 : RdI (.sl tRule) m1 m2 w9 [.slice A2 (List.length t.2.1) c2] t.2.1 := by rw [hw9]; exact q2.set (p := ⟨g, 3, none⟩) (.inr b_34) _
    have r3 : RdI (.sl (.sl .str)) w1.heap.size m1 w9 [.slice A3 1 1] t.2.2.1 := by rw [hw9]; exact q3.set (p := ⟨g, 3, none⟩) (.inr b_34) _
    have G9 : GRow tData m2 [w3.heap.size, w2.heap.size] w9 34 (.slice (some ⟨g, 0, none⟩) (List.length t.2.2.2) c4) (t.2.2.2.set 0 ((t.2.2.2[0]).1, (t.2.2.2[0]).2.1, (t.2.2.2[0]).2.2.1, s, (t.2.2.2[0]).2.2.2.2)) := by rw [hw9]; exact HG6.out.setAt (k := 0) (j := 3) h0 b_36 (.int .i64 s) _ (until_set hnew (t.2.2.2[0]))
    have rx : RdI tData wT.heap.size w3.heap.size w9 [.slice B0 (List.length x.1) d0, .slice B1 (List.length x.2.1) d1, .slice B2 (List.length x.2.2.1) d2, .int .i64 x.2.2.2.1, .int .i64 x.2.2.2.2] x := by rw [hw9]; exact qx.set (p := ⟨g, 3, none⟩) (.inl b_34) _
    have r4 := G9.rdI
    have hb5 : Ty.bulk (.sl tData) (t.2.2.2.set 0 ((t.2.2.2[0]).1, (t.2.2.2[0]).2.1, (t.2.2.2[0]).2.2.1, s, (t.2.2.2[0]).2.2.2.2)) ≤ 338 := by rw [bulk_set0 (d := ((t.2.2.2[0]).1, (t.2.2.2[0]).2.1, (t.2.2.2[0]).2.2.1, s, (t.2.2.2[0]).2.2.2.2)) h0 rfl]; exact hb4
    have kz := hT9.cell 3
    clear hw9 G9
    refine hK.out _ _ (kz) (fun hHeld => ?_)
    clear hK K
    try simp only [layz]
    refine wpAnyH_done b_35 ?_ _
    refine NoPanic.normal ?_
    (try clear kz)
    clear kT0 kT1 kT2 kT3 kF0 kF1 kF2 kF3 kX0 kX1 kX2 kX3 kX4 kY0 kY1 kY2 kY3 kY4
    clear hO4 hP4 hT4 hX4 hc4 D4 q1 q2 q3 qx HG HCC e7 f7 hO6 hP6 hT6 hX6 D6 F6 HG6
    have hl9 : List.length (t.2.2.2.set 0 ((t.2.2.2[0]).1, (t.2.2.2[0]).2.1, (t.2.2.2[0]).2.2.1, s, (t.2.2.2[0]).2.2.2.2)) = List.length t.2.2.2 := List.length_set
    generalize (t.2.2.2.set 0 ((t.2.2.2[0]).1, (t.2.2.2[0]).2.1, (t.2.2.2[0]).2.2.1, s, (t.2.2.2[0]).2.2.2.2)) = l9 at r4 hb5 hl9
    go_wp2_with fail
    rw [← hl9] at hT9 r4
    have r3 : RdI (.sl (.sl .str)) w1.heap.size m1 w9 [.slice A3 (List.length t.2.2.1) 1] t.2.2.1 := by rw [← HL3.out]; exact r3
    have hT9 : Blk w9 w2.heap.size 29 #[.slice A1 (List.length t.1) c1, .slice A2 (List.length t.2.1) c2, .slice A3 (List.length t.2.2.1) 1, .slice (some ⟨g, 0, none⟩) (List.length l9) c4] := by rw [← HL3.out]; exact hT9
    have QT : RdI tTrustPolicy w1.heap.size w9.heap.size w9 [.slice A1 (List.length t.1) c1, .slice A2 (List.length t.2.1) c2, .slice A3 (List.length t.2.2.1) 1, .slice (some ⟨g, 0, none⟩) (List.length l9) c4] (t.1, t.2.1, t.2.2.1, l9) := RdI.pr (r1.mono b_37 r1.1 (Nat.le_refl _)) (RdI.pr (r2.mono b_37 r2.1 (Nat.le_refl _)) (RdI.pr (r3.mono b_37 r3.1 (Nat.le_refl _)) (r4.mono b_37 r4.1 (Nat.le_refl _))))
    have QX := rx.mono (lo' := w1.heap.size) b_37 rx.1 (Nat.le_refl _)
    go_meet
    exact ⟨_, _, _, _, _, _, _, _, (t.1, t.2.1, t.2.2.1, l9), _, _, _, _, _, _, x, hO9, hP9, hT9, hX9, C9, D9, QT, QX, okPol.of hb1 hb2 (Nat.le_trans hb3 b_36) (Nat.le_trans hb5 b_36), hxb⟩
   ·go_wp2_with fail
    have hO9 := hO4
    have hP9 := hP4
    have hT9 := hT4
    have hX9 := hX4
    have C9 := hc4
    have D9 := D4.out
    have r1 := q1
    have r2 := q2
    have r3 := q3
    have r4 := HG.out.rdI
    have rx := qx
    clear kT0 kT1 kT2 kT3 kF0 kF1 kF2 kF3 kX0 kX1 kX2 kX3 kX4 kY0 kY1 kY2 kY3 kY4
    clear hO4 hP4 hT4 hX4 hc4 D4 q1 q2 q3 qx HG
    generalize w4 = w9 at *
    have r3 : RdI (.sl (.sl .str)) w1.heap.size m1 w9 [.slice A3 (List.length t.2.2.1) 1] t.2.2.1 := by rw [← HL3.out]; exact r3
    have hT9 : Blk w9 w2.heap.size 29 #[.slice A1 (List.length t.1) c1, .slice A2 (List.length t.2.1) c2, .slice A3 (List.length t.2.2.1) 1, .slice A4 (List.length t.2.2.2) c4] := by rw [← HL3.out]; exact hT9
    have QT : RdI tTrustPolicy w1.heap.size w9.heap.size w9 [.slice A1 (List.length t.1) c1, .slice A2 (List.length t.2.1) c2, .slice A3 (List.length t.2.2.1) 1, .slice A4 (List.length t.2.2.2) c4] t := RdI.pr (r1.mono b_37 r1.1 (Nat.le_refl _)) (RdI.pr (r2.mono b_37 r2.1 (Nat.le_refl _)) (RdI.pr (r3.mono b_37 r3.1 (Nat.le_refl _)) (r4.mono b_37 r4.1 (Nat.le_refl _))))
    have QX := rx.mono (lo' := w1.heap.size) b_37 rx.1 (Nat.le_refl _)
    go_meet
    exact ⟨_, _, _, _, _, _, _, _, t, _, _, _, _, _, _, x, hO9, hP9, hT9, hX9, C9, D9, QT, QX, okPol.of hb1 hb2 (Nat.le_trans hb3 b_36) (Nat.le_trans hb4 b_36), hxb⟩
  ·go_wp2_with fail
   refine wp_region_noPanic ?_
   refine wp_region_held_drew (S := (fun _ => True)) b_35 ?_ (fun hHeld => ?_)
   ·trivial
   refine tkz2 0 2 ?_
   try simp only [layz]
   refine rz2 1 3 (fun K hK => ?_) (fun K hK => ?_)
   ·go_simp
    refine hK.out _ _ ?_ (fun hHeld => ?_)
    ·(try dsimp only)
     try trivial
    clear hK K
    try simp only [layz]
    refine rz1 3 (fun K hK => ?_)
    go_simp
    go_at_call 93
    refine Calls.mono (C_spec_l4Any _ B (cuz hc4)) ?_
    rintro e w5 ⟨hd5, hc5, cs5, n5, rfl, hQ5, hok5⟩
    obtain ⟨E5, z5⟩ := ez w4 hd5
    obtain ⟨A5, c5, rfl⟩ := Ty.rd_slv hQ5.rd
    have hT5 := Dr.blk ((drz E5) : Dr B w4 w5) hT4 b_37
    have kT2 := hT5.cell 2
    have zT5 := hT5.lt
    (try simp only [szz] at hQ5)
    clear hd5
    refine hK.out _ _ ?_ (fun hHeld => ?_)
    ·(try dsimp only)
     try trivial
    clear hK K
    try simp only [layz]
    refine rz1 4 (fun K hK => ?_)
    go_simp
    refine abs_world (fun w6 hw6 => ?_)
    obtain ⟨E6, hc6, z6⟩ := nz hw6 hc5
    have hL6 : Blk w6 w5.heap.size 32 #[.slice A5 (List.length n5) c5] := by rw [hw6]; exact Blk.new _ _ _
    have Q6 := hQ5.dr E6 b_37
    have q36 := q3.dr (E5.trans E6) b_37
    have hT6 := Dr.blk E6 hT5 b_37
    have kT2 := hT6.cell 2
    have zT6 := hT6.lt
    clear hw6
    refine hK.out _ _ ?_ (fun hHeld => ?_)
    ·(try dsimp only)
     try trivial
    clear hK K
    try simp only [layz]
    refine rz1 5 (fun K hK => ?_)
    refine step_append_full (e := .sl .str) b_39 _ _ 26 b_39 32 info_Name rfl Tryz.underlying26 (lo := w1.heap.size) (d := n5) (ds := [.slice A5 (List.length n5) c5]) (A := A3) (n := 1) (c := 1) b_39 b_39 q36 (by have := HL3.out; omega) HL3.out hL6 Q6 (ex := [w2.heap.size]) b_37 (by intro q hq; simp at hq; subst hq; omega) (by rw [← HL3.out]; decide) (by rw [← HL3.out]; decide) ?_
    intro v' w7 hr' hg'
    have E7 : Dr B w6 w7 := Dr.grown (Dr.refl _ _) hg' b_38
    have hc7 : CurT w7 B := Cur.grown hc6 hg' b_38
    have z7 := E7.size
    have hb7 : Ty.bulk (.sl (.sl .str)) (t.2.2.1 ++ [n5]) ≤ 2000 := by rw [bulk_app, bulk_one]; have := any_bulk hok5; omega
    obtain ⟨l', hl'⟩ : ∃ l', l' = t.2.2.1 ++ [n5] := ⟨_, rfl⟩
    rw [← hl'] at hr' hb7
    clear hl'
    obtain ⟨A', c', rfl⟩ := hr'.form
    have HR := Lib.hid hr'
    have F7 : Dr B w4 w7 := (drz (E5.trans (E6.trans E7)))
    have D7 := Lib.hid (D4.out.trans F7)
    clear hr' hg'
    have hO7 := Dr.blk F7 hO4 b_37
    have hP7 := Dr.blk F7 hP4 b_37
    have hT7 := Dr.blk F7 hT4 b_37
    have hX7 := Dr.blk F7 hX4 b_37
    have q1 := q1.dr F7 b_37
    have q2 := q2.dr F7 b_37
    have q3 := q3.dr F7 b_37
    have qx := qx.dr F7 b_37
    have HG7 := Lib.hid (HG.out.dr F7 b_37)
    have zT7 := hT7.lt
    have zX7 := hX7.lt
    clear kT0 kT1 kT2 kT3 kF0 kF1 kF2 kF3 kX0 kX1 kX2 kX3 kX4 kY0 kY1 kY2 kY3 kY4
    obtain ⟨kT0, kT1, kT2, kT3, kF0, kF1, kF2, kF3⟩ := blk4 hT7
    obtain ⟨kX0, kX1, kX2, kX3, kX4, kY0, kY1, kY2, kY3, kY4⟩ := blk5 hX7
    refine hK.out _ _ ?_ (fun hHeld => ?_)
    ·(try dsimp only)
     try trivial
    clear hK K
    try simp only [layz]
    refine tkz 6 ?_
    try simp only [layz]
    refine rz1 7 (fun K hK => ?_)
    go_simp
    refine abs_world (fun w9 hw9 => ?_)
    have hO9 := hO7.far (p := ⟨w2.heap.size, 2, none⟩) b_34 (.slice A' (List.length l') c')
    have hP9 := hP7.far (p := ⟨w2.heap.size, 2, none⟩) b_34 (.slice A' (List.length l') c')
    have hT9 := hT7.set_ 2 (.slice A' (List.length l') c')
    have hX9 := hX7.far (p := ⟨w2.heap.size, 2, none⟩) b_34 (.slice A' (List.length l') c')
    have C9 := Cur.far hc7 (p := ⟨w2.heap.size, 2, none⟩) b_34 (.slice A' (List.length l') c')
    have D9 := Dr.set D7.out (p := ⟨w2.heap.size, 2, none⟩) (.inr b_34) (.slice A' (List.length l') c')
    have r1 := q1.set (p := ⟨w2.heap.size, 2, none⟩) (.inr b_34) (.slice A' (List.length l') c')
    have r2 := q2.set (p := ⟨w2.heap.size, 2, none⟩) (.inr b_34) (.slice A' (List.length l') c')
    have r3 := (GRow.set HR.out (p := ⟨w2.heap.size, 2, none⟩) (.inr b_38) (.slice A' (List.length l') c')).rdI
    have r4 := (GRow.set HG7.out (p := ⟨w2.heap.size, 2, none⟩) (.inr b_38) (.slice A' (List.length l') c')).rdI
    have rx := qx.set (p := ⟨w2.heap.size, 2, none⟩) (.inl b_34) (.slice A' (List.length l') c')
    rw [← hw9] at hO9 hP9 hT9 hX9 C9 D9 r1 r2 r3 r4 rx
    clear hw9
    refine hK.out _ _ ?_ (fun hHeld => ?_)
    ·(try dsimp only)
     try trivial
    clear hK K
    try simp only [layz]
    refine wpAnyH_done b_35 ?_ _
    refine NoPanic.normal ?_
    clear kT0 kT1 kT2 kT3 kF0 kF1 kF2 kF3 kX0 kX1 kX2 kX3 kX4 kY0 kY1 kY2 kY3 kY4
    clear hO4 hP4 hT4 hX4 hc4 D4 q1 q2 q3 qx HG
    go_wp2_with fail
    have QT : RdI tTrustPolicy w1.heap.size w9.heap.size w9 [.slice A1 (List.length t.1) c1, .slice A2 (List.length t.2.1) c2, .slice A' (List.length l') c', .slice A4 (List.length t.2.2.2) c4] (t.1, t.2.1, l', t.2.2.2) := RdI.pr (r1.mono b_37 r1.1 (Nat.le_refl _)) (RdI.pr (r2.mono b_37 r2.1 (Nat.le_refl _)) (RdI.pr (r3.mono b_37 r3.1 (Nat.le_refl _)) (r4.mono b_37 r4.1 (Nat.le_refl _))))
    have QX := rx.mono (lo' := w1.heap.size) b_37 rx.1 (Nat.le_refl _)
    go_meet
    exact ⟨_, _, _, _, _, _, _, _, (t.1, t.2.1, l', t.2.2.2), _, _, _, _, _, _, x, hO9, hP9, hT9, hX9, C9, D9, QT, QX, okPol.of hb1 hb2 hb7 (Nat.le_trans hb4 b_36), hxb⟩
   ·go_simp
    go_at_call 93
    refine Calls.mono (C_spec_l4Any _ B (cuz hc4)) ?_
    rintro e w5 ⟨hd5, hc5, cs5, n5, rfl, hQ5, hok5⟩
    obtain ⟨E5, z5⟩ := ez w4 hd5
    obtain ⟨A5, c5, rfl⟩ := Ty.rd_slv hQ5.rd
    have hT5 := Dr.blk ((drz E5) : Dr B w4 w5) hT4 b_37
    have kT2 := hT5.cell 2
    have zT5 := hT5.lt
    (try simp only [szz] at hQ5)
    clear hd5
    refine hK.out _ _ ?_ (fun hHeld => ?_)
    ·(try dsimp only)
     try trivial
    clear hK K
    try simp only [layz]
    refine rz2 1 4 (fun K hK => ?_) (fun K hK => ?_)
    ·go_simp
     refine hK.out _ _ ?_ (fun hHeld => ?_)
     ·(try dsimp only)
      try trivial
     clear hK K
     try simp only [layz]
     refine rz1 4 (fun K hK => ?_)
     go_simp
     refine abs_world (fun w6 hw6 => ?_)
     obtain ⟨E6, hc6, z6⟩ := nz hw6 hc5
     have hL6 : Blk w6 w5.heap.size 32 #[.slice A5 (List.length n5) c5] := by rw [hw6]; exact Blk.new _ _ _
     have Q6 := hQ5.dr E6 b_37
     have q36 := q3.dr (E5.trans E6) b_37
     have hT6 := Dr.blk E6 hT5 b_37
     have kT2 := hT6.cell 2
     have zT6 := hT6.lt
     clear hw6
     refine hK.out _ _ ?_ (fun hHeld => ?_)
     ·(try dsimp only)
      try trivial
     clear hK K
     try simp only [layz]
     refine rz1 5 (fun K hK => ?_)
     refine step_append_full (e := .sl .str) b_39 _ _ 26 b_39 32 info_Name rfl Tryz.underlying26 (lo := w1.heap.size) (d := n5) (ds := [.slice A5 (List.length n5) c5]) (A := A3) (n := 1) (c := 1) b_39 b_39 q36 (by have := HL3.out; omega) HL3.out hL6 Q6 (ex := [w2.heap.size]) b_37 (by intro q hq; simp at hq; subst hq; omega) (by rw [← HL3.out]; decide) (by rw [← HL3.out]; decide) ?_
     intro v' w7 hr' hg'
     have E7 : Dr B w6 w7 := Dr.grown (Dr.refl _ _) hg' b_38
     have hc7 : CurT w7 B := Cur.grown hc6 hg' b_38
     have z7 := E7.size
     have hb7 : Ty.bulk (.sl (.sl .str)) (t.2.2.1 ++ [n5]) ≤ 2000 := by rw [bulk_app, bulk_one]; have := any_bulk hok5; omega
     obtain ⟨l', hl'⟩ : ∃ l', l' = t.2.2.1 ++ [n5] := ⟨_, rfl⟩
     rw [← hl'] at hr' hb7
     clear hl'
     obtain ⟨A', c', rfl⟩ := hr'.form
     have HR := Lib.hid hr'
     have F7 : Dr B w4 w7 := (drz (E5.trans (E6.trans E7)))
     have D7 := Lib.hid (D4.out.trans F7)
     clear hr' hg'
     have hO7 := Dr.blk F7 hO4 b_37
     have hP7 := Dr.blk F7 hP4 b_37
     have hT7 := Dr.blk F7 hT4 b_37
     have hX7 := Dr.blk F7 hX4 b_37
     have q1 := q1.dr F7 b_37
     have q2 := q2.dr F7 b_37
     have q3 := q3.dr F7 b_37
     have qx := qx.dr F7 b_37
     have HG7 := Lib.hid (HG.out.dr F7 b_37)
     have zT7 := hT7.lt
     have zX7 := hX7.lt
     clear kT0 kT1 kT2 kT3 kF0 kF1 kF2 kF3 kX0 kX1 kX2 kX3 kX4 kY0 kY1 kY2 kY3 kY4
     obtain ⟨kT0, kT1, kT2, kT3, kF0, kF1, kF2, kF3⟩ := blk4 hT7
     obtain ⟨kX0, kX1, kX2, kX3, kX4, kY0, kY1, kY2, kY3, kY4⟩ := blk5 hX7
     refine hK.out _ _ ?_ (fun hHeld => ?_)
     ·(try dsimp only)
      try trivial
     clear hK K
     try simp only [layz]
     refine tkz 6 ?_
     try simp only [layz]
     refine rz1 7 (fun K hK => ?_)
     go_simp
     refine abs_world (fun w9 hw9 => ?_)
     have hO9 := hO7.far (p := ⟨w2.heap.size, 2, none⟩) b_34 (.slice A' (List.length l') c')
     have hP9 := hP7.far (p := ⟨w2.heap.size, 2, none⟩) b_34 (.slice A' (List.length l') c')
     have hT9 := hT7.set_ 2 (.slice A' (List.length l') c')
     have hX9 := hX7.far (p := ⟨w2.heap.size, 2, none⟩) b_34 (.slice A' (List.length l') c')
     have C9 := Cur.far hc7 (p := ⟨w2.heap.size, 2, none⟩) b_34 (.slice A' (List.length l') c')
     have D9 := Dr.set D7.out (p := ⟨w2.heap.size, 2, none⟩) (.inr b_34) (.slice A' (List.length l') c')
     have r1 := q1.set (p := ⟨w2.heap.size, 2, none⟩) (.inr b_34) (.slice A' (List.length l') c')
     have r2 := q2.set (p := ⟨w2.heap.size, 2, none⟩) (.inr b_34) (.slice A' (List.length l') c')
     have r3 := (GRow.set HR.out (p := ⟨w2.heap.size, 2, none⟩) (.inr b_38) (.slice A' (List.length l') c')).rdI
     have r4 := (GRow.set HG7.out (p := ⟨w2.heap.size, 2, none⟩) (.inr b_38) (.slice A' (List.length l') c')).rdI
     have rx := qx.set (p := ⟨w2.heap.size, 2, none⟩) (.inl b_34) (.slice A' (List.length l') c')
     rw [← hw9] at hO9 hP9 hT9 hX9 C9 D9 r1 r2 r3 r4 rx
     clear hw9
     refine hK.out _ _ ?_ (fun hHeld => ?_)
     ·(try dsimp only)
      try trivial
     clear hK K
     try simp only [layz]
     refine wpAnyH_done b_35 ?_ _
     refine NoPanic.normal ?_
     clear kT0 kT1 kT2 kT3 kF0 kF1 kF2 kF3 kX0 kX1 kX2 kX3 kX4 kY0 kY1 kY2 kY3 kY4
     clear hO4 hP4 hT4 hX4 hc4 D4 q1 q2 q3 qx HG
     go_wp2_with fail
     have QT : RdI tTrustPolicy w1.heap.size w9.heap.size w9 [.slice A1 (List.length t.1) c1, .slice A2 (List.length t.2.1) c2, .slice A' (List.length l') c', .slice A4 (List.length t.2.2.2) c4] (t.1, t.2.1, l', t.2.2.2) := RdI.pr (r1.mono b_37 r1.1 (Nat.le_refl _)) (RdI.pr (r2.mono b_37 r2.1 (Nat.le_refl _)) (RdI.pr (r3.mono b_37 r3.1 (Nat.le_refl _)) (r4.mono b_37 r4.1 (Nat.le_refl _))))
     have QX := rx.mono (lo' := w1.heap.size) b_37 rx.1 (Nat.le_refl _)
     go_meet
     exact ⟨_, _, _, _, _, _, _, _, (t.1, t.2.1, l', t.2.2.2), _, _, _, _, _, _, x, hO9, hP9, hT9, hX9, C9, D9, QT, QX, okPol.of hb1 hb2 hb7 (Nat.le_trans hb4 b_36), hxb⟩
    ·go_simp
     refine abs_world (fun w6 hw6 => ?_)
     obtain ⟨E6, hc6, z6⟩ := nz hw6 hc5
     have hL6 : Blk w6 w5.heap.size 32 #[.slice A5 (List.length n5) c5] := by rw [hw6]; exact Blk.new _ _ _
     have Q6 := hQ5.dr E6 b_37
     have q36 := q3.dr (E5.trans E6) b_37
     have hT6 := Dr.blk E6 hT5 b_37
     have kT2 := hT6.cell 2
     have zT6 := hT6.lt
     clear hw6
     refine hK.out _ _ ?_ (fun hHeld => ?_)
     ·(try dsimp only)
      try trivial
     clear hK K
     try simp only [layz]
     refine rz1 1 (fun K hK => ?_)
     go_simp
     refine hK.out _ _ ?_ (fun hHeld => ?_)
     ·(try dsimp only)
      try trivial
     clear hK K
     try simp only [layz]
     refine rz1 5 (fun K hK => ?_)
     refine step_append_full (e := .sl .str) b_39 _ _ 26 b_39 32 info_Name rfl Tryz.underlying26 (lo := w1.heap.size) (d := n5) (ds := [.slice A5 (List.length n5) c5]) (A := A3) (n := 1) (c := 1) b_39 b_39 q36 (by have := HL3.out; omega) HL3.out hL6 Q6 (ex := [w2.heap.size]) b_37 (by intro q hq; simp at hq; subst hq; omega) (by rw [← HL3.out]; decide) (by rw [← HL3.out]; decide) ?_
     intro v' w7 hr' hg'
     have E7 : Dr B w6 w7 := Dr.grown (Dr.refl _ _) hg' b_38
     have hc7 : CurT w7 B := Cur.grown hc6 hg' b_38
     have z7 := E7.size
     have hb7 : Ty.bulk (.sl (.sl .str)) (t.2.2.1 ++ [n5]) ≤ 2000 := by rw [bulk_app, bulk_one]; have := any_bulk hok5; omega
     obtain ⟨l', hl'⟩ : ∃ l', l' = t.2.2.1 ++ [n5] := ⟨_, rfl⟩
     rw [← hl'] at hr' hb7
     clear hl'
     obtain ⟨A', c', rfl⟩ := hr'.form
     have HR := Lib.hid hr'
     have F7 : Dr B w4 w7 := (drz (E5.trans (E6.trans E7)))
     have D7 := Lib.hid (D4.out.trans F7)
     clear hr' hg'
     have hO7 := Dr.blk F7 hO4 b_37
     have hP7 := Dr.blk F7 hP4 b_37
     have hT7 := Dr.blk F7 hT4 b_37
     have hX7 := Dr.blk F7 hX4 b_37
     have q1 := q1.dr F7 b_37
     have q2 := q2.dr F7 b_37
     have q3 := q3.dr F7 b_37
     have qx := qx.dr F7 b_37
     have HG7 := Lib.hid (HG.out.dr F7 b_37)
     have zT7 := hT7.lt
     have zX7 := hX7.lt
     clear kT0 kT1 kT2 kT3 kF0 kF1 kF2 kF3 kX0 kX1 kX2 kX3 kX4 kY0 kY1 kY2 kY3 kY4
     obtain ⟨kT0, kT1, kT2, kT3, kF0, kF1, kF2, kF3⟩ := blk4 hT7
     obtain ⟨kX0, kX1, kX2, kX3, kX4, kY0, kY1, kY2, kY3, kY4⟩ := blk5 hX7
     refine hK.out _ _ ?_ (fun hHeld => ?_)
     ·(try dsimp only)
      try trivial
     clear hK K
     try simp only [layz]
     refine tkz 6 ?_
     try simp only [layz]
     refine rz1 7 (fun K hK => ?_)
     go_simp
     refine abs_world (fun w9 hw9 => ?_)
     have hO9 := hO7.far (p := ⟨w2.heap.size, 2, none⟩) b_34 (.slice A' (List.length l') c')
     have hP9 := hP7.far (p := ⟨w2.heap.size, 2, none⟩) b_34 (.slice A' (List.length l') c')
     have hT9 := hT7.set_ 2 (.slice A' (List.length l') c')
     have hX9 := hX7.far (p := ⟨w2.heap.size, 2, none⟩) b_34 (.slice A' (List.length l') c')
     have C9 := Cur.far hc7 (p := ⟨w2.heap.size, 2, none⟩) b_34 (.slice A' (List.length l') c')
     have D9 := Dr.set D7.out (p := ⟨w2.heap.size, 2, none⟩) (.inr b_34) (.slice A' (List.length l') c')
     have r1 := q1.set (p := ⟨w2.heap.size, 2, none⟩) (.inr b_34) (.slice A' (List.length l') c')
     have r2 := q2.set (p := ⟨w2.heap.size, 2, none⟩) (.inr b_34) (.slice A' (List.length l') c')
     have r3 := (GRow.set HR.out (p := ⟨w2.heap.size, 2, none⟩) (.inr b_38) (.slice A' (List.length l') c')).rdI
     have r4 := (GRow.set HG7.out (p := ⟨w2.heap.size, 2, none⟩) (.inr b_38) (.slice A' (List.length l') c')).rdI
     have rx := qx.set (p := ⟨w2.heap.size, 2, none⟩) (.inl b_34) (.slice A' (List.length l') c')
     rw [← hw9] at hO9 hP9 hT9 hX9 C9 D9 r1 r2 r3 r4 rx
     clear hw9
     refine hK.out _ _ ?_ (fun hHeld => ?_)
     ·(try dsimp only)
      try trivial
     clear hK K
     try simp only [layz]
     refine wpAnyH_done b_35 ?_ _
     refine NoPanic.normal ?_
     clear kT0 kT1 kT2 kT3 kF0 kF1 kF2 kF3 kX0 kX1 kX2 kX3 kX4 kY0 kY1 kY2 kY3 kY4
     clear hO4 hP4 hT4 hX4 hc4 D4 q1 q2 q3 qx HG
     go_wp2_with fail
     have QT : RdI tTrustPolicy w1.heap.size w9.heap.size w9 [.slice A1 (List.length t.1) c1, .slice A2 (List.length t.2.1) c2, .slice A' (List.length l') c', .slice A4 (List.length t.2.2.2) c4] (t.1, t.2.1, l', t.2.2.2) := RdI.pr (r1.mono b_37 r1.1 (Nat.le_refl _)) (RdI.pr (r2.mono b_37 r2.1 (Nat.le_refl _)) (RdI.pr (r3.mono b_37 r3.1 (Nat.le_refl _)) (r4.mono b_37 r4.1 (Nat.le_refl _))))
     have QX := rx.mono (lo' := w1.heap.size) b_37 rx.1 (Nat.le_refl _)
     go_meet
     exact ⟨_, _, _, _, _, _, _, _, (t.1, t.2.1, l', t.2.2.2), _, _, _, _, _, _, x, hO9, hP9, hT9, hX9, C9, D9, QT, QX, okPol.of hb1 hb2 hb7 (Nat.le_trans hb4 b_36), hxb⟩
  ·have HCC : Hid (∀ V, Dr B w4 V → V.cell? ⟨w2.heap.size, 0, none⟩ = some (.slice A1 (List.length t.1) c1)) := fun V hV => (Dr.blk hV hT4 b_37).cell 0
   go_wp2_with fail
   refine wp_region_noPanic ?_
   refine wp_region_held_drew (S := (fun V => V.cell? ⟨w2.heap.size, 0, none⟩ = some (.slice A1 (List.length t.1) c1))) b_35 ?_ (fun hHeld => ?_)
   ·exact hT4.cell 0
   refine tkz2 0 1 ?_
   try simp only [layz]
   refine rz2 2 8 (fun K hK => ?_) (fun K hK => ?_)
   ·go_simp
    go_at_call 62
    refine Calls.mono (C_spec_l4Of _ [47, 97, 47, 107, 101, 121] b_36) ?_
    rintro e w5 ⟨cs5, fp5, rfl, how5, hfr5, hb5⟩
    obtain ⟨E5, z5⟩ := ez w4 (Dr.of hb5 B)
    have hc5 : CurT w5 B := Cur.below (cuz hc4) hb5
    rw [pn_aK] at how5
    obtain ⟨A5, A5c, rfl⟩ := Ty.ow_slv how5
    have Q5 := RdI.of_owF how5 hfr5 (Nat.le_refl _)
    (try simp only [szz] at Q5)
    clear how5 hfr5
    clear hb5
    refine hK.out _ _ (HCC.out _ (drz E5)) (fun hHeld => ?_)
    clear hK K
    try simp only [layz]
    refine rz2 3 8 (fun K hK => ?_) (fun K hK => ?_)
    ·go_simp
     go_at_call 62
     refine Calls.mono (C_spec_l4Of _ [47, 98, 47, 107, 101, 121] b_36) ?_
     rintro e w6 ⟨cs6, fp6, rfl, how6, hfr6, hb6⟩
     obtain ⟨E6, z6⟩ := ez w5 (Dr.of hb6 B)
     have hc6 : CurT w6 B := Cur.below (cuz hc5) hb6
     rw [pn_bK] at how6
     obtain ⟨A6, A6c, rfl⟩ := Ty.ow_slv how6
     have Q6 := RdI.of_owF how6 hfr6 (Nat.le_refl _)
     (try simp only [szz] at Q6)
     clear how6 hfr6
     clear hb6
     refine hK.out _ _ (HCC.out _ (drz (E5.trans E6))) (fun hHeld => ?_)
     clear hK K
     try simp only [layz]
     refine rz2 4 8 (fun K hK => ?_) (fun K hK => ?_)
     ·go_simp
      go_at_call 15
      refine Calls.mono (C_spec_IssueCertificate _ _ t.1 [_] nm_aK [_] nm_bK 5000 (q1.dr (drz (E5.trans E6)) b_37).rd (Q5.dr (drz E6) b_37).rd (Q6.dr (drz (Dr.refl B w6)) b_37).rd (Nat.le_trans hb1 b_36) b_36 b_36 b_36) ?_
      rintro e w7 ⟨cs7, fp7, rfl, how7, hfr7, hb7⟩
      obtain ⟨E7, z7⟩ := ez w6 (Dr.of hb7 B)
      have hc7 : CurT w7 B := Cur.below (cuz hc6) hb7
      have hyb := iss_bulk t.1 (n := nm_aK) (by_ := nm_bK) 5000 b_36 b_36
      generalize f0_IssueCertificate t.1 nm_aK nm_bK 5000 = y at how7 hyb ⊢
      generalize f1_IssueCertificate t.1 nm_aK nm_bK 5000 = yes
      obtain ⟨C0, e0, C1, e1, C2, e2, rfl⟩ := ow_Data how7
      have Y7 := RdI.of_owF how7 hfr7 (Nat.le_refl _)
      (try simp only [szz] at Y7)
      clear how7 hfr7
      clear hb7
      refine hK.out _ _ (HCC.out _ (drz (E5.trans (E6.trans E7)))) (fun hHeld => ?_)
      clear hK K
      try simp only [layz]
      refine tkz3 5 6 7 ?_
      try simp only [layz]
      refine rz1 8 (fun K hK => ?_)
      go_simp
      refine abs_world (fun w8 hw8 => ?_)
      obtain ⟨E8, hc8, z8⟩ := nz hw8 hc7
      have hY8 : Blk w8 w7.heap.size 34 #[.slice none 0 0, .slice none 0 0, .slice none 0 0, .int .i64 0, .int .i64 0] := by rw [hw8]; exact (by first | exact Blk.new _ _ _ | exact (Blk.new _ _ _).drew)
      clear hw8
      refine hK.out _ _ (HCC.out _ (drz (E5.trans (E6.trans (E7.trans E8))))) (fun hHeld => ?_)
      clear hK K
      try simp only [layz]
      refine rz1 9 (fun K hK => ?_)
      have hYc := Dr.blk (drz (Dr.refl B w8)) hY8 b_37
      have zYc := hYc.lt
      obtain ⟨o0, o1, o2, o3, o4, f0, f1, f2, f3, f4⟩ := blk5 hYc
      go_simp
      refine abs_world (fun wy hwy => ?_)
      obtain ⟨hYY, hK, hs, Cy, Fy⟩ := stored5 (v0 := .slice C0 (List.length y.1) e0) (v1 := .slice C1 (List.length y.2.1) e1) (v2 := .slice C2 (List.length y.2.2.1) e2) (v3 := .int .i64 y.2.2.2.1) (v4 := .int .i64 y.2.2.2.2) hYc (.inl hwy) (B := B) b_37 hc8
      have Ey : Dr B w4 wy := Fy w4 b_37 (drz (E5.trans (E6.trans (E7.trans E8))))
      have Yy := (Y7.dr (drz E8) b_37).keep hs (fun q h1 h2 => hK q b_37)
      have kz := HCC.out _ Ey
      have zy := Ey.size
      have zYY := hYY.lt
      clear o0 o1 o2 o3 o4 f0 f1 f2 f3 f4 hwy hK hs Fy hYc
      refine hK.out _ _ (kz) (fun hHeld => ?_)
      clear hK K
      try simp only [layz]
      refine tkz 10 ?_
      try simp only [layz]
      refine wpAnyH_done b_35 ?_ _
      refine NoPanic.normal ?_
      clear kz
      clear kT0 kT1 kT2 kT3 kF0 kF1 kF2 kF3 kX0 kX1 kX2 kX3 kX4 kY0 kY1 kY2 kY3 kY4
      obtain ⟨o0, o1, o2, o3, o4, -⟩ := blk5 hYY
      obtain ⟨kT0, kT1, kT2, kT3, kF0, kF1, kF2, kF3⟩ := blk4 (Dr.blk Ey hT4 b_37)
      obtain ⟨kX0, kX1, kX2, kX3, kX4, kY0, kY1, kY2, kY3, kY4⟩ := blk5 (Dr.blk Ey hX4 b_37)
      have q4y := q4.dr Ey b_37
      have zT5 := (Dr.blk Ey hT4 b_37).lt
      have HLY : Hid (GRow tData m2 [w3.heap.size, w2.heap.size] (wy.alloc (.cells #[.slice C0 (List.length y.1) e0, .slice C1 (List.length y.2.1) e1, .slice C2 (List.length y.2.2.1) e2, .int .i64 y.2.2.2.1, .int .i64 y.2.2.2.2] 34)) 34 (.slice (some ⟨wy.heap.size, 0, none⟩) 1 1) [y]) := Lib.hid (GRow.lit1x (Blk.new _ _ _) (Yy.alloc _) (by have := Yy.1; omega) b_37 b_37 b_25)
      set_option maxRecDepth 100000 in go_wp2_with (at_builtin; go_loud (refine wpList_append_grow (e := tData) rfl _ _ 27 rfl m2 [w3.heap.size, w2.heap.size] 34 info_Data rfl Tryz.underlying27 (.slice (some ⟨wy.heap.size, 0, none⟩) 1 1) (.slice A4 (List.length t.2.2.2) c4) [y] t.2.2.2 b_39 b_39 HLY.out (ASrc.ofRdI (q4y.alloc _) (Nat.le_refl _) b_25 (by intro q hq; simp [Value.ownBlock] at hq; omega)) ?_ ?_ ?_ ?_ ?_))
      case refine_1 => intro q hq; simp at hq; rcases hq with rfl | rfl <;> exact b_32
      case refine_2 => simp only [List.length_singleton]; omega
      case refine_3 => simp only [List.length_singleton]; unfold maxLen; omega
      case refine_4 => exact b_32
      intro v' w5' hr' hg'
      have hx : ∀ q, (Value.slice (some ⟨wy.heap.size, 0, none⟩) 1 1).ownBlock = some q → q = wy.heap.size := by intro q hq; simp [Value.ownBlock] at hq; exact hq.symm
      have Ez : Dr B wy w5' := Dr.grown (new_dr B wy _) hg' (fun q hq => by rw [hx q hq]; exact Nat.le_refl _)
      have hcz : CurT w5' B := Cur.grown (Cur.alloc Cy _) hg' (fun q hq => by rw [hx q hq]; omega)
      have Ew : Dr B w4 w5' := Ey.trans Ez
      have Dz := Lib.hid (D4.out.trans Ew)
      have zz := Ew.size
      have hb5 : Ty.bulk (.sl tData) (y :: t.2.2.2) ≤ 4000 := by rw [show (y :: t.2.2.2) = [y] ++ t.2.2.2 from rfl, bulk_app, bulk_one]; omega
      obtain ⟨l', hl'⟩ : ∃ l', l' = y :: t.2.2.2 := ⟨_, rfl⟩
      rw [← hl'] at hr' hb5
      clear hl'
      obtain ⟨A', c', rfl⟩ := hr'.form
      have HR := Lib.hid hr'
      clear hr' hg' hx o0 o1 o2 o3 o4 q4y
      have hOz := Dr.blk Ew hO4 b_37
      have hPz := Dr.blk Ew hP4 b_37
      have hTz := Dr.blk Ew hT4 b_37
      have hXz := Dr.blk Ew hX4 b_37
      have q1 := q1.dr Ew b_37
      have q2 := q2.dr Ew b_37
      have q3 := q3.dr Ew b_37
      have qx := qx.dr Ew b_37
      have HGz := Lib.hid (HG.out.dr Ew b_37)
      have zTz := hTz.lt
      have zXz := hXz.lt
      clear kT0 kT1 kT2 kT3 kF0 kF1 kF2 kF3 kX0 kX1 kX2 kX3 kX4 kY0 kY1 kY2 kY3 kY4
      obtain ⟨kT0, kT1, kT2, kT3, kF0, kF1, kF2, kF3⟩ := blk4 hTz
      obtain ⟨kX0, kX1, kX2, kX3, kX4, kY0, kY1, kY2, kY3, kY4⟩ := blk5 hXz
      have hO9 := hOz.far (p := ⟨w2.heap.size, 3, none⟩) b_34 (.slice A' (List.length l') c')
      have hP9 := hPz.far (p := ⟨w2.heap.size, 3, none⟩) b_34 (.slice A' (List.length l') c')
      have hT9 := hTz.set_ 3 (.slice A' (List.length l') c')
      have hX9 := hXz.far (p := ⟨w2.heap.size, 3, none⟩) b_34 (.slice A' (List.length l') c')
      have C9 := Cur.far hcz (p := ⟨w2.heap.size, 3, none⟩) b_34 (.slice A' (List.length l') c')
      have D9 := Dr.set Dz.out (p := ⟨w2.heap.size, 3, none⟩) (.inr b_34) (.slice A' (List.length l') c')
      have r1 := q1.set (p := ⟨w2.heap.size, 3, none⟩) (.inr b_34) (.slice A' (List.length l') c')
      have r2 := q2.set (p := ⟨w2.heap.size, 3, none⟩) (.inr b_34) (.slice A' (List.length l') c')
      have r3 := q3.set (p := ⟨w2.heap.size, 3, none⟩) (.inr b_34) (.slice A' (List.length l') c')
      have r4 := (GRow.set HR.out (p := ⟨w2.heap.size, 3, none⟩) (.inr b_38) (.slice A' (List.length l') c')).rdI
      have rx := qx.set (p := ⟨w2.heap.size, 3, none⟩) (.inl b_34) (.slice A' (List.length l') c')
      go_wp2_with fail
      generalize (w5'.setCell ⟨w2.heap.size, 3, none⟩ (.slice A' (List.length l') c')) = w9 at hO9 hP9 hT9 hX9 C9 D9 r1 r2 r3 r4 rx ⊢
      have r3 : RdI (.sl (.sl .str)) w1.heap.size m1 w9 [.slice A3 (List.length t.2.2.1) 1] t.2.2.1 := by rw [← HL3.out]; exact r3
      have hT9 : Blk w9 w2.heap.size 29 #[.slice A1 (List.length t.1) c1, .slice A2 (List.length t.2.1) c2, .slice A3 (List.length t.2.2.1) 1, .slice A' (List.length l') c'] := by rw [← HL3.out]; exact hT9
      have QT : RdI tTrustPolicy w1.heap.size w9.heap.size w9 [.slice A1 (List.length t.1) c1, .slice A2 (List.length t.2.1) c2, .slice A3 (List.length t.2.2.1) 1, .slice A' (List.length l') c'] (t.1, t.2.1, t.2.2.1, l') := RdI.pr (r1.mono b_37 r1.1 (Nat.le_refl _)) (RdI.pr (r2.mono b_37 r2.1 (Nat.le_refl _)) (RdI.pr (r3.mono b_37 r3.1 (Nat.le_refl _)) (r4.mono b_37 r4.1 (Nat.le_refl _))))
      have QX := rx.mono (lo' := w1.heap.size) b_37 rx.1 (Nat.le_refl _)
      go_meet
      exact ⟨_, _, _, _, _, _, _, _, (t.1, t.2.1, t.2.2.1, l'), _, _, _, _, _, _, x, hO9, hP9, hT9, hX9, C9, D9, QT, QX, okPol.of hb1 hb2 (Nat.le_trans hb3 b_36) hb5, hxb⟩
     ·go_simp
      refine abs_world (fun w8 hw8 => ?_)
      obtain ⟨E8, hc8, z8⟩ := nz hw8 hc6
      have hY8 : Blk w8 w6.heap.size 34 #[.slice none 0 0, .slice none 0 0, .slice none 0 0, .int .i64 0, .int .i64 0] := by rw [hw8]; exact (by first | exact Blk.new _ _ _ | exact (Blk.new _ _ _).drew)
      clear hw8
      refine hK.out _ _ (HCC.out _ (drz (E5.trans (E6.trans E8)))) (fun hHeld => ?_)
      clear hK K
      try simp only [layz]
      refine rz1 4 (fun K hK => ?_)
      go_simp
      go_at_call 15
      refine Calls.mono (C_spec_IssueCertificate _ _ t.1 [_] nm_aK [_] nm_bK 5000 (q1.dr (drz (E5.trans (E6.trans E8))) b_37).rd (Q5.dr (drz (E6.trans E8)) b_37).rd (Q6.dr (drz E8) b_37).rd (Nat.le_trans hb1 b_36) b_36 b_36 b_36) ?_
      rintro e w7 ⟨cs7, fp7, rfl, how7, hfr7, hb7⟩
      obtain ⟨E7, z7⟩ := ez w8 (Dr.of hb7 B)
      have hc7 : CurT w7 B := Cur.below (cuz hc8) hb7
      have hyb := iss_bulk t.1 (n := nm_aK) (by_ := nm_bK) 5000 b_36 b_36
      generalize f0_IssueCertificate t.1 nm_aK nm_bK 5000 = y at how7 hyb ⊢
      generalize f1_IssueCertificate t.1 nm_aK nm_bK 5000 = yes
      obtain ⟨C0, e0, C1, e1, C2, e2, rfl⟩ := ow_Data how7
      have Y7 := RdI.of_owF how7 hfr7 (Nat.le_refl _)
      (try simp only [szz] at Y7)
      clear how7 hfr7
      clear hb7
      refine hK.out _ _ (HCC.out _ (drz (E5.trans (E6.trans (E8.trans E7))))) (fun hHeld => ?_)
      clear hK K
      try simp only [layz]
      refine tkz3 5 6 7 ?_
      try simp only [layz]
      refine rz1 9 (fun K hK => ?_)
      have hYc := Dr.blk (drz E7) hY8 b_37
      have zYc := hYc.lt
      obtain ⟨o0, o1, o2, o3, o4, f0, f1, f2, f3, f4⟩ := blk5 hYc
      go_simp
      refine abs_world (fun wy hwy => ?_)
      obtain ⟨hYY, hK, hs, Cy, Fy⟩ := stored5 (v0 := .slice C0 (List.length y.1) e0) (v1 := .slice C1 (List.length y.2.1) e1) (v2 := .slice C2 (List.length y.2.2.1) e2) (v3 := .int .i64 y.2.2.2.1) (v4 := .int .i64 y.2.2.2.2) hYc (.inl hwy) (B := B) b_37 hc7
      have Ey : Dr B w4 wy := Fy w4 b_37 (drz (E5.trans (E6.trans (E8.trans E7))))
      have Yy := (Y7.dr (drz (Dr.refl B w7)) b_37).keep hs (fun q h1 h2 => hK q b_37)
      have kz := HCC.out _ Ey
      have zy := Ey.size
      have zYY := hYY.lt
      clear o0 o1 o2 o3 o4 f0 f1 f2 f3 f4 hwy hK hs Fy hYc
      refine hK.out _ _ (kz) (fun hHeld => ?_)
      clear hK K
      try simp only [layz]
      refine tkz 10 ?_
      try simp only [layz]
      refine wpAnyH_done b_35 ?_ _
      refine NoPanic.normal ?_
      clear kz
      clear kT0 kT1 kT2 kT3 kF0 kF1 kF2 kF3 kX0 kX1 kX2 kX3 kX4 kY0 kY1 kY2 kY3 kY4
      obtain ⟨o0, o1, o2, o3, o4, -⟩ := blk5 hYY
      obtain ⟨kT0, kT1, kT2, kT3, kF0, kF1, kF2, kF3⟩ := blk4 (Dr.blk Ey hT4 b_37)
      obtain ⟨kX0, kX1, kX2, kX3, kX4, kY0, kY1, kY2, kY3, kY4⟩ := blk5 (Dr.blk Ey hX4 b_37)
      have q4y := q4.dr Ey b_37
      have zT5 := (Dr.blk Ey hT4 b_37).lt
      have HLY : Hid (GRow tData m2 [w3.heap.size, w2.heap.size] (wy.alloc (.cells #[.slice C0 (List.length y.1) e0, .slice C1 (List.length y.2.1) e1, .slice C2 (List.length y.2.2.1) e2, .int .i64 y.2.2.2.1, .int .i64 y.2.2.2.2] 34)) 34 (.slice (some ⟨wy.heap.size, 0, none⟩) 1 1) [y]) := Lib.hid (GRow.lit1x (Blk.new _ _ _) (Yy.alloc _) (by have := Yy.1; omega) b_37 b_37 b_25)
      set_option maxRecDepth 100000 in go_wp2_with (at_builtin; go_loud (refine wpList_append_grow (e := tData) rfl _ _ 27 rfl m2 [w3.heap.size, w2.heap.size] 34 info_Data rfl Tryz.underlying27 (.slice (some ⟨wy.heap.size, 0, none⟩) 1 1) (.slice A4 (List.length t.2.2.2) c4) [y] t.2.2.2 b_39 b_39 HLY.out (ASrc.ofRdI (q4y.alloc _) (Nat.le_refl _) b_25 (by intro q hq; simp [Value.ownBlock] at hq; omega)) ?_ ?_ ?_ ?_ ?_))
      case refine_1 => intro q hq; simp at hq; rcases hq with rfl | rfl <;> exact b_32
      case refine_2 => simp only [List.length_singleton]; omega
      case refine_3 => simp only [List.length_singleton]; unfold maxLen; omega
      case refine_4 => exact b_32
      intro v' w5' hr' hg'
      have hx : ∀ q, (Value.slice (some ⟨wy.heap.size, 0, none⟩) 1 1).ownBlock = some q → q = wy.heap.size := by intro q hq; simp [Value.ownBlock] at hq; exact hq.symm
      have Ez : Dr B wy w5' := Dr.grown (new_dr B wy _) hg' (fun q hq => by rw [hx q hq]; exact Nat.le_refl _)
      have hcz : CurT w5' B := Cur.grown (Cur.alloc Cy _) hg' (fun q hq => by rw [hx q hq]; omega)
      have Ew : Dr B w4 w5' := Ey.trans Ez
      have Dz := Lib.hid (D4.out.trans Ew)
      have zz := Ew.size
      have hb5 : Ty.bulk (.sl tData) (y :: t.2.2.2) ≤ 4000 := by rw [show (y :: t.2.2.2) = [y] ++ t.2.2.2 from rfl, bulk_app, bulk_one]; omega
      obtain ⟨l', hl'⟩ : ∃ l', l' = y :: t.2.2.2 := ⟨_, rfl⟩
      rw [← hl'] at hr' hb5
      clear hl'
      obtain ⟨A', c', rfl⟩ := hr'.form
      have HR := Lib.hid hr'
      clear hr' hg' hx o0 o1 o2 o3 o4 q4y
      have hOz := Dr.blk Ew hO4 b_37
      have hPz := Dr.blk Ew hP4 b_37
      have hTz := Dr.blk Ew hT4 b_37
      have hXz := Dr.blk Ew hX4 b_37
      have q1 := q1.dr Ew b_37
      have q2 := q2.dr Ew b_37
      have q3 := q3.dr Ew b_37
      have qx := qx.dr Ew b_37
      have HGz := Lib.hid (HG.out.dr Ew b_37)
      have zTz := hTz.lt
      have zXz := hXz.lt
      clear kT0 kT1 kT2 kT3 kF0 kF1 kF2 kF3 kX0 kX1 kX2 kX3 kX4 kY0 kY1 kY2 kY3 kY4
      obtain ⟨kT0, kT1, kT2, kT3, kF0, kF1, kF2, kF3⟩ := blk4 hTz
      obtain ⟨kX0, kX1, kX2, kX3, kX4, kY0, kY1, kY2, kY3, kY4⟩ := blk5 hXz
      have hO9 := hOz.far (p := ⟨w2.heap.size, 3, none⟩) b_34 (.slice A' (List.length l') c')
      have hP9 := hPz.far (p := ⟨w2.heap.size, 3, none⟩) b_34 (.slice A' (List.length l') c')
      have hT9 := hTz.set_ 3 (.slice A' (List.length l') c')
      have hX9 := hXz.far (p := ⟨w2.heap.size, 3, none⟩) b_34 (.slice A' (List.length l') c')
      have C9 := Cur.far hcz (p := ⟨w2.heap.size, 3, none⟩) b_34 (.slice A' (List.length l') c')
      have D9 := Dr.set Dz.out (p := ⟨w2.heap.size, 3, none⟩) (.inr b_34) (.slice A' (List.length l') c')
      have r1 := q1.set (p := ⟨w2.heap.size, 3, none⟩) (.inr b_34) (.slice A' (List.length l') c')
      have r2 := q2.set (p := ⟨w2.heap.size, 3, none⟩) (.inr b_34) (.slice A' (List.length l') c')
      have r3 := q3.set (p := ⟨w2.heap.size, 3, none⟩) (.inr b_34) (.slice A' (List.length l') c')
      have r4 := (GRow.set HR.out (p := ⟨w2.heap.size, 3, none⟩) (.inr b_38) (.slice A' (List.length l') c')).rdI
      have rx := qx.set (p := ⟨w2.heap.size, 3, none⟩) (.inl b_34) (.slice A' (List.length l') c')
      go_wp2_with fail
      generalize (w5'.setCell ⟨w2.heap.size, 3, none⟩ (.slice A' (List.length l') c')) = w9 at hO9 hP9 hT9 hX9 C9 D9 r1 r2 r3 r4 rx ⊢
      have r3 : RdI (.sl (.sl .str)) w1.heap.size m1 w9 [.slice A3 (List.length t.2.2.1) 1] t.2.2.1 := by rw [← HL3.out]; exact r3
      have hT9 : Blk w9 w2.heap.size 29 #[.slice A1 (List.length t.1) c1, .slice A2 (List.length t.2.1) c2, .slice A3 (List.length t.2.2.1) 1, .slice A' (List.length l') c'] := by rw [← HL3.out]; exact hT9
      have QT : RdI tTrustPolicy w1.heap.size w9.heap.size w9 [.slice A1 (List.length t.1) c1, .slice A2 (List.length t.2.1) c2, .slice A3 (List.length t.2.2.1) 1, .slice A' (List.length l') c'] (t.1, t.2.1, t.2.2.1, l') := RdI.pr (r1.mono b_37 r1.1 (Nat.le_refl _)) (RdI.pr (r2.mono b_37 r2.1 (Nat.le_refl _)) (RdI.pr (r3.mono b_37 r3.1 (Nat.le_refl _)) (r4.mono b_37 r4.1 (Nat.le_refl _))))
      have QX := rx.mono (lo' := w1.heap.size) b_37 rx.1 (Nat.le_refl _)
      go_meet
      exact ⟨_, _, _, _, _, _, _, _, (t.1, t.2.1, t.2.2.1, l'), _, _, _, _, _, _, x, hO9, hP9, hT9, hX9, C9, D9, QT, QX, okPol.of hb1 hb2 (Nat.le_trans hb3 b_36) hb5, hxb⟩
    ·go_simp
     refine abs_world (fun w8 hw8 => ?_)
     obtain ⟨E8, hc8, z8⟩ := nz hw8 hc5
     have hY8 : Blk w8 w5.heap.size 34 #[.slice none 0 0, .slice none 0 0, .slice none 0 0, .int .i64 0, .int .i64 0] := by rw [hw8]; exact (by first | exact Blk.new _ _ _ | exact (Blk.new _ _ _).drew)
     clear hw8
     refine hK.out _ _ (HCC.out _ (drz (E5.trans E8))) (fun hHeld => ?_)
     clear hK K
     try simp only [layz]
     refine rz1 3 (fun K hK => ?_)
     go_simp
     go_at_call 62
     refine Calls.mono (C_spec_l4Of _ [47, 98, 47, 107, 101, 121] b_36) ?_
     rintro e w6 ⟨cs6, fp6, rfl, how6, hfr6, hb6⟩
     obtain ⟨E6, z6⟩ := ez w8 (Dr.of hb6 B)
     have hc6 : CurT w6 B := Cur.below (cuz hc8) hb6
     rw [pn_bK] at how6
     obtain ⟨A6, A6c, rfl⟩ := Ty.ow_slv how6
     have Q6 := RdI.of_owF how6 hfr6 (Nat.le_refl _)
     (try simp only [szz] at Q6)
     clear how6 hfr6
     clear hb6
     refine hK.out _ _ (HCC.out _ (drz (E5.trans (E8.trans E6)))) (fun hHeld => ?_)
     clear hK K
     try simp only [layz]
     refine rz1 4 (fun K hK => ?_)
     go_simp
     go_at_call 15
     refine Calls.mono (C_spec_IssueCertificate _ _ t.1 [_] nm_aK [_] nm_bK 5000 (q1.dr (drz (E5.trans (E8.trans E6))) b_37).rd (Q5.dr (drz (E8.trans E6)) b_37).rd (Q6.dr (drz (Dr.refl B w6)) b_37).rd (Nat.le_trans hb1 b_36) b_36 b_36 b_36) ?_
     rintro e w7 ⟨cs7, fp7, rfl, how7, hfr7, hb7⟩
     obtain ⟨E7, z7⟩ := ez w6 (Dr.of hb7 B)
     have hc7 : CurT w7 B := Cur.below (cuz hc6) hb7
     have hyb := iss_bulk t.1 (n := nm_aK) (by_ := nm_bK) 5000 b_36 b_36
     generalize f0_IssueCertificate t.1 nm_aK nm_bK 5000 = y at how7 hyb ⊢
     generalize f1_IssueCertificate t.1 nm_aK nm_bK 5000 = yes
     obtain ⟨C0, e0, C1, e1, C2, e2, rfl⟩ := ow_Data how7
     have Y7 := RdI.of_owF how7 hfr7 (Nat.le_refl _)
     (try simp only [szz] at Y7)
     clear how7 hfr7
     clear hb7
     refine hK.out _ _ (HCC.out _ (drz (E5.trans (E8.trans (E6.trans E7))))) (fun hHeld => ?_)
     clear hK K
     try simp only [layz]
     refine tkz3 5 6 7 ?_
     try simp only [layz]
     refine rz1 9 (fun K hK => ?_)
     have hYc := Dr.blk (drz (E6.trans E7)) hY8 b_37
     have zYc := hYc.lt
     obtain ⟨o0, o1, o2, o3, o4, f0, f1, f2, f3, f4⟩ := blk5 hYc
     go_simp
     refine abs_world (fun wy hwy => ?_)
     obtain ⟨hYY, hK, hs, Cy, Fy⟩ := stored5 (v0 := .slice C0 (List.length y.1) e0) (v1 := .slice C1 (List.length y.2.1) e1) (v2 := .slice C2 (List.length y.2.2.1) e2) (v3 := .int .i64 y.2.2.2.1) (v4 := .int .i64 y.2.2.2.2) hYc (.inl hwy) (B := B) b_37 hc7
     have Ey : Dr B w4 wy := Fy w4 b_37 (drz (E5.trans (E8.trans (E6.trans E7))))
     have Yy := (Y7.dr (drz (Dr.refl B w7)) b_37).keep hs (fun q h1 h2 => hK q b_37)
     have kz := HCC.out _ Ey
     have zy := Ey.size
     have zYY := hYY.lt
     clear o0 o1 o2 o3 o4 f0 f1 f2 f3 f4 hwy hK hs Fy hYc
     refine hK.out _ _ (kz) (fun hHeld => ?_)
     clear hK K
     try simp only [layz]
     refine tkz 10 ?_
     try simp only [layz]
     refine wpAnyH_done b_35 ?_ _
     refine NoPanic.normal ?_
     clear kz
     clear kT0 kT1 kT2 kT3 kF0 kF1 kF2 kF3 kX0 kX1 kX2 kX3 kX4 kY0 kY1 kY2 kY3 kY4
     obtain ⟨o0, o1, o2, o3, o4, -⟩ := blk5 hYY
     obtain ⟨kT0, kT1, kT2, kT3, kF0, kF1, kF2, kF3⟩ := blk4 (Dr.blk Ey hT4 b_37)
     obtain ⟨kX0, kX1, kX2, kX3, kX4, kY0, kY1, kY2, kY3, kY4⟩ := blk5 (Dr.blk Ey hX4 b_37)
     have q4y := q4.dr Ey b_37
     have zT5 := (Dr.blk Ey hT4 b_37).lt
     have HLY : Hid (GRow tData m2 [w3.heap.size, w2.heap.size] (wy.alloc (.cells #[.slice C0 (List.length y.1) e0, .slice C1 (List.length y.2.1) e1, .slice C2 (List.length y.2.2.1) e2, .int .i64 y.2.2.2.1, .int .i64 y.2.2.2.2] 34)) 34 (.slice (some ⟨wy.heap.size, 0, none⟩) 1 1) [y]) := Lib.hid (GRow.lit1x (Blk.new _ _ _) (Yy.alloc _) (by have := Yy.1; omega) b_37 b_37 b_25)
     set_option maxRecDepth 100000 in go_wp2_with (at_builtin; go_loud (refine wpList_append_grow (e := tData) rfl _ _ 27 rfl m2 [w3.heap.size, w2.heap.size] 34 info_Data rfl Tryz.underlying27 (.slice (some ⟨wy.heap.size, 0, none⟩) 1 1) (.slice A4 (List.length t.2.2.2) c4) [y] t.2.2.2 b_39 b_39 HLY.out (ASrc.ofRdI (q4y.alloc _) (Nat.le_refl _) b_25 (by intro q hq; simp [Value.ownBlock] at hq; omega)) ?_ ?_ ?_ ?_ ?_))
     case refine_1 => intro q hq; simp at hq; rcases hq with rfl | rfl <;> exact b_32
     case refine_2 => simp only [List.length_singleton]; omega
     case refine_3 => simp only [List.length_singleton]; unfold maxLen; omega
     case refine_4 => exact b_32
     intro v' w5' hr' hg'
     have hx : ∀ q, (Value.slice (some ⟨wy.heap.size, 0, none⟩) 1 1).ownBlock = some q → q = wy.heap.size := by intro q hq; simp [Value.ownBlock] at hq; exact hq.symm
     have Ez : Dr B wy w5' := Dr.grown (new_dr B wy _) hg' (fun q hq => by rw [hx q hq]; exact Nat.le_refl _)
     have hcz : CurT w5' B := Cur.grown (Cur.alloc Cy _) hg' (fun q hq => by rw [hx q hq]; omega)
     have Ew : Dr B w4 w5' := Ey.trans Ez
     have Dz := Lib.hid (D4.out.trans Ew)
     have zz := Ew.size
     have hb5 : Ty.bulk (.sl tData) (y :: t.2.2.2) ≤ 4000 := by rw [show (y :: t.2.2.2) = [y] ++ t.2.2.2 from rfl, bulk_app, bulk_one]; omega
     obtain ⟨l', hl'⟩ : ∃ l', l' = y :: t.2.2.2 := ⟨_, rfl⟩
     rw [← hl'] at hr' hb5
     clear hl'
     obtain ⟨A', c', rfl⟩ := hr'.form
     have HR := Lib.hid hr'
     clear hr' hg' hx o0 o1 o2 o3 o4 q4y
     have hOz := Dr.blk Ew hO4 b_37
     have hPz := Dr.blk Ew hP4 b_37
     have hTz := Dr.blk Ew hT4 b_37
     have hXz := Dr.blk Ew hX4 b_37
     have q1 := q1.dr Ew b_37
     have q2 := q2.dr Ew b_37
     have q3 := q3.dr Ew b_37
     have qx := qx.dr Ew b_37
     have HGz := Lib.hid (HG.out.dr Ew b_37)
     have zTz := hTz.lt
     have zXz := hXz.lt
     clear kT0 kT1 kT2 kT3 kF0 kF1 kF2 kF3 kX0 kX1 kX2 kX3 kX4 kY0 kY1 kY2 kY3 kY4
     obtain ⟨kT0, kT1, kT2, kT3, kF0, kF1, kF2, kF3⟩ := blk4 hTz
     obtain ⟨kX0, kX1, kX2, kX3, kX4, kY0, kY1, kY2, kY3, kY4⟩ := blk5 hXz
     have hO9 := hOz.far (p := ⟨w2.heap.size, 3, none⟩) b_34 (.slice A' (List.length l') c')
     have hP9 := hPz.far (p := ⟨w2.heap.size, 3, none⟩) b_34 (.slice A' (List.length l') c')
     have hT9 := hTz.set_ 3 (.slice A' (List.length l') c')
     have hX9 := hXz.far (p := ⟨w2.heap.size, 3, none⟩) b_34 (.slice A' (List.length l') c')
     have C9 := Cur.far hcz (p := ⟨w2.heap.size, 3, none⟩) b_34 (.slice A' (List.length l') c')
     have D9 := Dr.set Dz.out (p := ⟨w2.heap.size, 3, none⟩) (.inr b_34) (.slice A' (List.length l') c')
     have r1 := q1.set (p := ⟨w2.heap.size, 3, none⟩) (.inr b_34) (.slice A' (List.length l') c')
     have r2 := q2.set (p := ⟨w2.heap.size, 3, none⟩) (.inr b_34) (.slice A' (List.length l') c')
     have r3 := q3.set (p := ⟨w2.heap.size, 3, none⟩) (.inr b_34) (.slice A' (List.length l') c')
     have r4 := (GRow.set HR.out (p := ⟨w2.heap.size, 3, none⟩) (.inr b_38) (.slice A' (List.length l') c')).rdI
     have rx := qx.set (p := ⟨w2.heap.size, 3, none⟩) (.inl b_34) (.slice A' (List.length l') c')
     go_wp2_with fail
     generalize (w5'.setCell ⟨w2.heap.size, 3, none⟩ (.slice A' (List.length l') c')) = w9 at hO9 hP9 hT9 hX9 C9 D9 r1 r2 r3 r4 rx ⊢
     have r3 : RdI (.sl (.sl .str)) w1.heap.size m1 w9 [.slice A3 (List.length t.2.2.1) 1] t.2.2.1 := by rw [← HL3.out]; exact r3
     have hT9 : Blk w9 w2.heap.size 29 #[.slice A1 (List.length t.1) c1, .slice A2 (List.length t.2.1) c2, .slice A3 (List.length t.2.2.1) 1, .slice A' (List.length l') c'] := by rw [← HL3.out]; exact hT9
     have QT : RdI tTrustPolicy w1.heap.size w9.heap.size w9 [.slice A1 (List.length t.1) c1, .slice A2 (List.length t.2.1) c2, .slice A3 (List.length t.2.2.1) 1, .slice A' (List.length l') c'] (t.1, t.2.1, t.2.2.1, l') := RdI.pr (r1.mono b_37 r1.1 (Nat.le_refl _)) (RdI.pr (r2.mono b_37 r2.1 (Nat.le_refl _)) (RdI.pr (r3.mono b_37 r3.1 (Nat.le_refl _)) (r4.mono b_37 r4.1 (Nat.le_refl _))))
     have QX := rx.mono (lo' := w1.heap.size) b_37 rx.1 (Nat.le_refl _)
     go_meet
     exact ⟨_, _, _, _, _, _, _, _, (t.1, t.2.1, t.2.2.1, l'), _, _, _, _, _, _, x, hO9, hP9, hT9, hX9, C9, D9, QT, QX, okPol.of hb1 hb2 (Nat.le_trans hb3 b_36) hb5, hxb⟩
   ·go_simp
    refine abs_world (fun w8 hw8 => ?_)
    obtain ⟨E8, hc8, z8⟩ := nz hw8 hc4
    have hY8 : Blk w8 w4.heap.size 34 #[.slice none 0 0, .slice none 0 0, .slice none 0 0, .int .i64 0, .int .i64 0] := by rw [hw8]; exact (by first | exact Blk.new _ _ _ | exact (Blk.new _ _ _).drew)
    clear hw8
    refine hK.out _ _ (HCC.out _ (drz E8)) (fun hHeld => ?_)
    clear hK K
    try simp only [layz]
    refine rz1 2 (fun K hK => ?_)
    go_simp
    go_at_call 62
    refine Calls.mono (C_spec_l4Of _ [47, 97, 47, 107, 101, 121] b_36) ?_
    rintro e w5 ⟨cs5, fp5, rfl, how5, hfr5, hb5⟩
    obtain ⟨E5, z5⟩ := ez w8 (Dr.of hb5 B)
    have hc5 : CurT w5 B := Cur.below (cuz hc8) hb5
    rw [pn_aK] at how5
    obtain ⟨A5, A5c, rfl⟩ := Ty.ow_slv how5
    have Q5 := RdI.of_owF how5 hfr5 (Nat.le_refl _)
    (try simp only [szz] at Q5)
    clear how5 hfr5
    clear hb5
    refine hK.out _ _ (HCC.out _ (drz (E8.trans E5))) (fun hHeld => ?_)
    clear hK K
    try simp only [layz]
    refine rz1 3 (fun K hK => ?_)
    go_simp
    go_at_call 62
    refine Calls.mono (C_spec_l4Of _ [47, 98, 47, 107, 101, 121] b_36) ?_
    rintro e w6 ⟨cs6, fp6, rfl, how6, hfr6, hb6⟩
    obtain ⟨E6, z6⟩ := ez w5 (Dr.of hb6 B)
    have hc6 : CurT w6 B := Cur.below (cuz hc5) hb6
    rw [pn_bK] at how6
    obtain ⟨A6, A6c, rfl⟩ := Ty.ow_slv how6
    have Q6 := RdI.of_owF how6 hfr6 (Nat.le_refl _)
    (try simp only [szz] at Q6)
    clear how6 hfr6
    clear hb6
    refine hK.out _ _ (HCC.out _ (drz (E8.trans (E5.trans E6)))) (fun hHeld => ?_)
    clear hK K
    try simp only [layz]
    refine rz1 4 (fun K hK => ?_)
    go_simp
    go_at_call 15
    refine Calls.mono (C_spec_IssueCertificate _ _ t.1 [_] nm_aK [_] nm_bK 5000 (q1.dr (drz (E8.trans (E5.trans E6))) b_37).rd (Q5.dr (drz E6) b_37).rd (Q6.dr (drz (Dr.refl B w6)) b_37).rd (Nat.le_trans hb1 b_36) b_36 b_36 b_36) ?_
    rintro e w7 ⟨cs7, fp7, rfl, how7, hfr7, hb7⟩
    obtain ⟨E7, z7⟩ := ez w6 (Dr.of hb7 B)
    have hc7 : CurT w7 B := Cur.below (cuz hc6) hb7
    have hyb := iss_bulk t.1 (n := nm_aK) (by_ := nm_bK) 5000 b_36 b_36
    generalize f0_IssueCertificate t.1 nm_aK nm_bK 5000 = y at how7 hyb ⊢
    generalize f1_IssueCertificate t.1 nm_aK nm_bK 5000 = yes
    obtain ⟨C0, e0, C1, e1, C2, e2, rfl⟩ := ow_Data how7
    have Y7 := RdI.of_owF how7 hfr7 (Nat.le_refl _)
    (try simp only [szz] at Y7)
    clear how7 hfr7
    clear hb7
    refine hK.out _ _ (HCC.out _ (drz (E8.trans (E5.trans (E6.trans E7))))) (fun hHeld => ?_)
    clear hK K
    try simp only [layz]
    refine tkz3 5 6 7 ?_
    try simp only [layz]
    refine rz1 9 (fun K hK => ?_)
    have hYc := Dr.blk (drz (E5.trans (E6.trans E7))) hY8 b_37
    have zYc := hYc.lt
    obtain ⟨o0, o1, o2, o3, o4, f0, f1, f2, f3, f4⟩ := blk5 hYc
    go_simp
    refine abs_world (fun wy hwy => ?_)
    obtain ⟨hYY, hK, hs, Cy, Fy⟩ := stored5 (v0 := .slice C0 (List.length y.1) e0) (v1 := .slice C1 (List.length y.2.1) e1) (v2 := .slice C2 (List.length y.2.2.1) e2) (v3 := .int .i64 y.2.2.2.1) (v4 := .int .i64 y.2.2.2.2) hYc (.inl hwy) (B := B) b_37 hc7
    have Ey : Dr B w4 wy := Fy w4 b_37 (drz (E8.trans (E5.trans (E6.trans E7))))
    have Yy := (Y7.dr (drz (Dr.refl B w7)) b_37).keep hs (fun q h1 h2 => hK q b_37)
    have kz := HCC.out _ Ey
    have zy := Ey.size
    have zYY := hYY.lt
    clear o0 o1 o2 o3 o4 f0 f1 f2 f3 f4 hwy hK hs Fy hYc
    refine hK.out _ _ (kz) (fun hHeld => ?_)
    clear hK K
    try simp only [layz]
    refine tkz 10 ?_
    try simp only [layz]
    refine wpAnyH_done b_35 ?_ _
    refine NoPanic.normal ?_
    clear kz
    clear kT0 kT1 kT2 kT3 kF0 kF1 kF2 kF3 kX0 kX1 kX2 kX3 kX4 kY0 kY1 kY2 kY3 kY4
    obtain ⟨o0, o1, o2, o3, o4, -⟩ := blk5 hYY
    obtain ⟨kT0, kT1, kT2, kT3, kF0, kF1, kF2, kF3⟩ := blk4 (Dr.blk Ey hT4 b_37)
    obtain ⟨kX0, kX1, kX2, kX3, kX4, kY0, kY1, kY2, kY3, kY4⟩ := blk5 (Dr.blk Ey hX4 b_37)
    have q4y := q4.dr Ey b_37
    have zT5 := (Dr.blk Ey hT4 b_37).lt
    have HLY : Hid (GRow tData m2 [w3.heap.size, w2.heap.size] (wy.alloc (.cells #[.slice C0 (List.length y.1) e0, .slice C1 (List.length y.2.1) e1, .slice C2 (List.length y.2.2.1) e2, .int .i64 y.2.2.2.1, .int .i64 y.2.2.2.2] 34)) 34 (.slice (some ⟨wy.heap.size, 0, none⟩) 1 1) [y]) := Lib.hid (GRow.lit1x (Blk.new _ _ _) (Yy.alloc _) (by have := Yy.1; omega) b_37 b_37 b_25)
    set_option maxRecDepth 100000 in go_wp2_with (at_builtin; go_loud (refine wpList_append_grow (e := tData) rfl _ _ 27 rfl m2 [w3.heap.size, w2.heap.size] 34 info_Data rfl Tryz.underlying27 (.slice (some ⟨wy.heap.size, 0, none⟩) 1 1) (.slice A4 (List.length t.2.2.2) c4) [y] t.2.2.2 b_39 b_39 HLY.out (ASrc.ofRdI (q4y.alloc _) (Nat.le_refl _) b_25 (by intro q hq; simp [Value.ownBlock] at hq; omega)) ?_ ?_ ?_ ?_ ?_))
    case refine_1 => intro q hq; simp at hq; rcases hq with rfl | rfl <;> exact b_32
    case refine_2 => simp only [List.length_singleton]; omega
    case refine_3 => simp only [List.length_singleton]; unfold maxLen; omega
    case refine_4 => exact b_32
    intro v' w5' hr' hg'
    have hx : ∀ q, (Value.slice (some ⟨wy.heap.size, 0, none⟩) 1 1).ownBlock = some q → q = wy.heap.size := by intro q hq; simp [Value.ownBlock] at hq; exact hq.symm
    have Ez : Dr B wy w5' := Dr.grown (new_dr B wy _) hg' (fun q hq => by rw [hx q hq]; exact Nat.le_refl _)
    have hcz : CurT w5' B := Cur.grown (Cur.alloc Cy _) hg' (fun q hq => by rw [hx q hq]; omega)
    have Ew : Dr B w4 w5' := Ey.trans Ez
    have Dz := Lib.hid (D4.out.trans Ew)
    have zz := Ew.size
    have hb5 : Ty.bulk (.sl tData) (y :: t.2.2.2) ≤ 4000 := by rw [show (y :: t.2.2.2) = [y] ++ t.2.2.2 from rfl, bulk_app, bulk_one]; omega
    obtain ⟨l', hl'⟩ : ∃ l', l' = y :: t.2.2.2 := ⟨_, rfl⟩
    rw [← hl'] at hr' hb5
    clear hl'
    obtain ⟨A', c', rfl⟩ := hr'.form
    have HR := Lib.hid hr'
    clear hr' hg' hx o0 o1 o2 o3 o4 q4y
    have hOz := Dr.blk Ew hO4 b_37
    have hPz := Dr.blk Ew hP4 b_37
    have hTz := Dr.blk Ew hT4 b_37
    have hXz := Dr.blk Ew hX4 b_37
    have q1 := q1.dr Ew b_37
    have q2 := q2.dr Ew b_37
    have q3 := q3.dr Ew b_37
    have qx := qx.dr Ew b_37
    have HGz := Lib.hid (HG.out.dr Ew b_37)
    have zTz := hTz.lt
    have zXz := hXz.lt
    clear kT0 kT1 kT2 kT3 kF0 kF1 kF2 kF3 kX0 kX1 kX2 kX3 kX4 kY0 kY1 kY2 kY3 kY4
    obtain ⟨kT0, kT1, kT2, kT3, kF0, kF1, kF2, kF3⟩ := blk4 hTz
    obtain ⟨kX0, kX1, kX2, kX3, kX4, kY0, kY1, kY2, kY3, kY4⟩ := blk5 hXz
    have hO9 := hOz.far (p := ⟨w2.heap.size, 3, none⟩) b_34 (.slice A' (List.length l') c')
    have hP9 := hPz.far (p := ⟨w2.heap.size, 3, none⟩) b_34 (.slice A' (List.length l') c')
    have hT9 := hTz.set_ 3 (.slice A' (List.length l') c')
    have hX9 := hXz.far (p := ⟨w2.heap.size, 3, none⟩) b_34 (.slice A' (List.length l') c')
    have C9 := Cur.far hcz (p := ⟨w2.heap.size, 3, none⟩) b_34 (.slice A' (List.length l') c')
    have D9 := Dr.set Dz.out (p := ⟨w2.heap.size, 3, none⟩) (.inr b_34) (.slice A' (List.length l') c')
    have r1 := q1.set (p := ⟨w2.heap.size, 3, none⟩) (.inr b_34) (.slice A' (List.length l') c')
    have r2 := q2.set (p := ⟨w2.heap.size, 3, none⟩) (.inr b_34) (.slice A' (List.length l') c')
    have r3 := q3.set (p := ⟨w2.heap.size, 3, none⟩) (.inr b_34) (.slice A' (List.length l') c')
    have r4 := (GRow.set HR.out (p := ⟨w2.heap.size, 3, none⟩) (.inr b_38) (.slice A' (List.length l') c')).rdI
    have rx := qx.set (p := ⟨w2.heap.size, 3, none⟩) (.inl b_34) (.slice A' (List.length l') c')
    go_wp2_with fail
    generalize (w5'.setCell ⟨w2.heap.size, 3, none⟩ (.slice A' (List.length l') c')) = w9 at hO9 hP9 hT9 hX9 C9 D9 r1 r2 r3 r4 rx ⊢
    have r3 : RdI (.sl (.sl .str)) w1.heap.size m1 w9 [.slice A3 (List.length t.2.2.1) 1] t.2.2.1 := by rw [← HL3.out]; exact r3
    have hT9 : Blk w9 w2.heap.size 29 #[.slice A1 (List.length t.1) c1, .slice A2 (List.length t.2.1) c2, .slice A3 (List.length t.2.2.1) 1, .slice A' (List.length l') c'] := by rw [← HL3.out]; exact hT9
    have QT : RdI tTrustPolicy w1.heap.size w9.heap.size w9 [.slice A1 (List.length t.1) c1, .slice A2 (List.length t.2.1) c2, .slice A3 (List.length t.2.2.1) 1, .slice A' (List.length l') c'] (t.1, t.2.1, t.2.2.1, l') := RdI.pr (r1.mono b_37 r1.1 (Nat.le_refl _)) (RdI.pr (r2.mono b_37 r2.1 (Nat.le_refl _)) (RdI.pr (r3.mono b_37 r3.1 (Nat.le_refl _)) (r4.mono b_37 r4.1 (Nat.le_refl _))))
    have QX := rx.mono (lo' := w1.heap.size) b_37 rx.1 (Nat.le_refl _)
    go_meet
    exact ⟨_, _, _, _, _, _, _, _, (t.1, t.2.1, t.2.2.1, l'), _, _, _, _, _, _, x, hO9, hP9, hT9, hX9, C9, D9, QT, QX, okPol.of hb1 hb2 (Nat.le_trans hb3 b_36) hb5, hxb⟩
  ·go_wp2_with fail
   refine Calls.mono (C_spec_l8Any _ B b_14) ?_
   rintro e w5 ⟨hd5, hc5, cs5, y, rfl, hQ, hoky⟩
   have z5 := hd5.size
   (try simp only [szz] at z5)
   have E5 : Dr B w4 w5 := b_5
   have D5 := Lib.hid (D4.out.trans E5)
   obtain ⟨C0, e0, C1, e1, C2, e2, rfl, -, -, -, -, -⟩ := rd_Data hQ.rd
   have hyb : okPolX y := by have := thing_bulk hoky; unfold okPolX; omega
   clear hd5
   have hO5 := Dr.blk E5 hO4 b_37
   have hP5 := Dr.blk E5 hP4 b_37
   have hT5 := Dr.blk E5 hT4 b_37
   have hX5 := Dr.blk E5 hX4 b_37
   have q1 := q1.dr E5 b_37
   have q2 := q2.dr E5 b_37
   have q3 := q3.dr E5 b_37
   have qx := qx.dr E5 b_37
   have HG5 := Lib.hid (HG.out.dr E5 b_37)
   have zT5 := hT5.lt
   have zX5 := hX5.lt
   clear kT0 kT1 kT2 kT3 kF0 kF1 kF2 kF3 kX0 kX1 kX2 kX3 kX4 kY0 kY1 kY2 kY3 kY4
   obtain ⟨kT0, kT1, kT2, kT3, kF0, kF1, kF2, kF3⟩ := blk4 hT5
   obtain ⟨kX0, kX1, kX2, kX3, kX4, kY0, kY1, kY2, kY3, kY4⟩ := blk5 hX5
   go_wp2_with fail
   obtain ⟨w9, hw9⟩ : ∃ w9, w9 = (((((w5.setCell ⟨w3.heap.size, 0, none⟩ (.slice C0 (List.length y.1) e0)).setCell ⟨w3.heap.size, 1, none⟩ (.slice C1 (List.length y.2.1) e1)).setCell ⟨w3.heap.size, 2, none⟩ (.slice C2 (List.length y.2.2.1) e2)).setCell ⟨w3.heap.size, 3, none⟩ (.int .i64 y.2.2.2.1)).setCell ⟨w3.heap.size, 4, none⟩ (.int .i64 y.2.2.2.2)) := ⟨_, rfl⟩
   obtain ⟨hX9, hK, hs, C9, F9⟩ := stored5 (v0 := .slice C0 (List.length y.1) e0) (v1 := .slice C1 (List.length y.2.1) e1) (v2 := .slice C2 (List.length y.2.2.1) e2) (v3 := .int .i64 y.2.2.2.1) (v4 := .int .i64 y.2.2.2.2) hX5 (.inl hw9) (B := B) b_37 hc5
   rw [← hw9]
   have D9 := F9 w b_37 D5.out
   have hO9 : Blk w9 w.heap.size 29 #[.slice none 0 0, .slice none 0 0, .slice none 0 0, .slice none 0 0] := (hK _ b_37).trans hO5
   have hP9 : Blk w9 (w.heap.size + 1) 34 #[.slice none 0 0, .slice none 0 0, .slice none 0 0, .int .i64 0, .int .i64 0] := (hK _ b_37).trans hP5
   have hT9 : Blk w9 w2.heap.size 29 #[.slice A1 (List.length t.1) c1, .slice A2 (List.length t.2.1) c2, .slice A3 1 1, .slice A4 (List.length t.2.2.2) c4] := (hK _ b_37).trans hT5
   have r1 := q1.keep hs (fun q h1 h2 => hK q b_37)
   have r2 := q2.keep hs (fun q h1 h2 => hK q b_37)
   have r3 := q3.keep hs (fun q h1 h2 => hK q b_37)
   have r4 := (GRow.keep HG5.out hs (fun b h1 h2 h3 => hK b (fun e => h3 (by rw [e]; simp)))).rdI
   have rx := hQ.keep hs (fun q h1 h2 => hK q b_37)
   clear hw9 hK F9 kT0 kT1 kT2 kT3 kF0 kF1 kF2 kF3 kX0 kX1 kX2 kX3 kX4 kY0 kY1 kY2 kY3 kY4
   have r3 : RdI (.sl (.sl .str)) w1.heap.size m1 w9 [.slice A3 (List.length t.2.2.1) 1] t.2.2.1 := by rw [← HL3.out]; exact r3
   have hT9 : Blk w9 w2.heap.size 29 #[.slice A1 (List.length t.1) c1, .slice A2 (List.length t.2.1) c2, .slice A3 (List.length t.2.2.1) 1, .slice A4 (List.length t.2.2.2) c4] := by rw [← HL3.out]; exact hT9
   have QT : RdI tTrustPolicy w1.heap.size w9.heap.size w9 [.slice A1 (List.length t.1) c1, .slice A2 (List.length t.2.1) c2, .slice A3 (List.length t.2.2.1) 1, .slice A4 (List.length t.2.2.2) c4] t := RdI.pr (r1.mono b_37 r1.1 (Nat.le_refl _)) (RdI.pr (r2.mono b_37 r2.1 (Nat.le_refl _)) (RdI.pr (r3.mono b_37 r3.1 (Nat.le_refl _)) (r4.mono b_37 r4.1 (Nat.le_refl _))))
   have QX := rx.mono (lo' := w1.heap.size) b_37 rx.1 (Nat.le_refl _)
   go_meet
   exact ⟨_, _, _, _, _, _, _, _, t, _, _, _, _, _, _, y, hO9, hP9, hT9, hX9, C9, D9, QT, QX, okPol.of hb1 hb2 (Nat.le_trans hb3 b_36) (Nat.le_trans hb4 b_36), hyb⟩
  ·have q00 : (k == 0) = false := by rw [beq_eq_false_iff_ne]; exact hk.1
   have q10 : (k == 1) = false := by rw [beq_eq_false_iff_ne]; exact hk.2.1
   have q20 : (k == 2) = false := by rw [beq_eq_false_iff_ne]; exact hk.2.2.1
   have q30 : (k == 3) = false := by rw [beq_eq_false_iff_ne]; exact hk.2.2.2.1
   have q40 : (k == 4) = false := by rw [beq_eq_false_iff_ne]; exact hk.2.2.2.2.1
   have q50 : (k == 5) = false := by rw [beq_eq_false_iff_ne]; exact hk.2.2.2.2.2.1
   have q60 : (k == 6) = false := by rw [beq_eq_false_iff_ne]; exact hk.2.2.2.2.2.2
   go_wp2_with fail
   have hO9 := hO4
   have hP9 := hP4
   have hT9 := hT4
   have hX9 := hX4
   have C9 := hc4
   have D9 := D4.out
   have r1 := q1
   have r2 := q2
   have r3 := q3
   have r4 := HG.out.rdI
   have rx := qx
   clear kT0 kT1 kT2 kT3 kF0 kF1 kF2 kF3 kX0 kX1 kX2 kX3 kX4 kY0 kY1 kY2 kY3 kY4
   clear hO4 hP4 hT4 hX4 hc4 D4 q1 q2 q3 qx HG
   generalize w4 = w9 at *
   have r3 : RdI (.sl (.sl .str)) w1.heap.size m1 w9 [.slice A3 (List.length t.2.2.1) 1] t.2.2.1 := by rw [← HL3.out]; exact r3
   have hT9 : Blk w9 w2.heap.size 29 #[.slice A1 (List.length t.1) c1, .slice A2 (List.length t.2.1) c2, .slice A3 (List.length t.2.2.1) 1, .slice A4 (List.length t.2.2.2) c4] := by rw [← HL3.out]; exact hT9
   have QT : RdI tTrustPolicy w1.heap.size w9.heap.size w9 [.slice A1 (List.length t.1) c1, .slice A2 (List.length t.2.1) c2, .slice A3 (List.length t.2.2.1) 1, .slice A4 (List.length t.2.2.2) c4] t := RdI.pr (r1.mono b_37 r1.1 (Nat.le_refl _)) (RdI.pr (r2.mono b_37 r2.1 (Nat.le_refl _)) (RdI.pr (r3.mono b_37 r3.1 (Nat.le_refl _)) (r4.mono b_37 r4.1 (Nat.le_refl _))))
   have QX := rx.mono (lo' := w1.heap.size) b_37 rx.1 (Nat.le_refl _)
   go_meet
   exact ⟨_, _, _, _, _, _, _, _, t, _, _, _, _, _, _, x, hO9, hP9, hT9, hX9, C9, D9, QT, QX, okPol.of hb1 hb2 (Nat.le_trans hb3 b_36) (Nat.le_trans hb4 b_36), hxb⟩
 obtain ⟨w9, h9⟩ : ∃ V, V = wc := ⟨_, rfl⟩
 subst h9
 have zw2 := hT3.lt
 clear hT3 hO2 hP2 hQ3 GY D2 hc3 E3 q1 q2 q3 q4 hb1 hb2 hb3 hb4 HL3 hl4 HK4 hxb hbl2
 obtain ⟨A1, c1, A2, c2, A3, c3, A4, c4, t, B0, d0, B1, d1, B2, d2, x, hO9, hP9, hT9, hX9, C9, D9, QT, QX, okp, okx⟩ := hcut
 go_wp2_with fail
 have D9 := Lib.hid D9
 have zO9 := hO9.lt
 have zP9 := hP9.lt
 have zT9 := hT9.lt
 have zX9 := hX9.lt
 obtain ⟨o0, o1, o2, o3, f0, f1, f2, f3⟩ := blk4 hO9
 obtain ⟨p0, p1, p2, p3, p4, g0, g1, g2, g3, g4⟩ := blk5 hP9
 obtain ⟨kT0, kT1, kT2, kT3, kF0, kF1, kF2, kF3⟩ := blk4 hT9
 obtain ⟨kX0, kX1, kX2, kX3, kX4, kY0, kY1, kY2, kY3, kY4⟩ := blk5 hX9
 refine wp_region_noPanic ?_
 refine wp_region_held_drew (S := (fun V => V.cell? ⟨w2.heap.size, 0, none⟩ = some (.slice A1 (List.length t.1) c1) ∧ V.cell? ⟨w2.heap.size, 1, none⟩ = some (.slice A2 (List.length t.2.1) c2) ∧ V.cell? ⟨w2.heap.size, 2, none⟩ = some (.slice A3 (List.length t.2.2.1) c3) ∧ V.cell? ⟨w2.heap.size, 3, none⟩ = some (.slice A4 (List.length t.2.2.2) c4) ∧ V.cell? ⟨w3.heap.size, 0, none⟩ = some (.slice B0 (List.length x.1) d0) ∧ V.cell? ⟨w3.heap.size, 1, none⟩ = some (.slice B1 (List.length x.2.1) d1) ∧ V.cell? ⟨w3.heap.size, 2, none⟩ = some (.slice B2 (List.length x.2.2.1) d2) ∧ V.cell? ⟨w3.heap.size, 3, none⟩ = some (.int .i64 x.2.2.2.1) ∧ V.cell? ⟨w3.heap.size, 4, none⟩ = some (.int .i64 x.2.2.2.2))) b_35 ?_ (fun hHeld => ?_)
 ·exact ⟨kT0, kT1, kT2, kT3, kX0, kX1, kX2, kX3, kX4⟩
 refine tkz2 0 1 ?_
 try simp only [layz]
 refine rz1 2 (fun K hK => ?_)
 go_simp
 refine abs_world (fun wO hw => ?_)
 obtain ⟨hOO, hK, hs, CO, F⟩ := stored4 (v0 := .slice A1 (List.length t.1) c1) (v1 := .slice A2 (List.length t.2.1) c2) (v2 := .slice A3 (List.length t.2.2.1) c3) (v3 := .slice A4 (List.length t.2.2.2) c4) hO9 (.inr hw) (B := B) b_37 C9
 have DO := Lib.hid (F w b_37 D9.out)
 have hPO := (hK _ b_37).trans hP9
 have hTO : Blk wO w2.heap.size 29 #[.slice A1 (List.length t.1) c1, .slice A2 (List.length t.2.1) c2, .slice A3 (List.length t.2.2.1) c3, .slice A4 (List.length t.2.2.2) c4] := (hK _ b_37).trans hT9
 have hXO : Blk wO w3.heap.size 34 #[.slice B0 (List.length x.1) d0, .slice B1 (List.length x.2.1) d1, .slice B2 (List.length x.2.2.1) d2, .int .i64 x.2.2.2.1, .int .i64 x.2.2.2.2] := (hK _ b_37).trans hX9
 have QTO := QT.keep hs (fun q h1 h2 => hK q b_37)
 have QXO := QX.keep hs (fun q h1 h2 => hK q b_37)
 have hPO : Blk wO (w.heap.size + 1) 34 #[.slice none 0 0, .slice none 0 0, .slice none 0 0, .int .i64 0, .int .i64 0] := hPO
 clear hw hK hs F
 (try clear o0 o1 o2 o3 f0 f1 f2 f3)
 clear p0 p1 p2 p3 p4 g0 g1 g2 g3 g4
 obtain ⟨p0, p1, p2, p3, p4, g0, g1, g2, g3, g4⟩ := blk5 hPO
 clear kT0 kT1 kT2 kT3 kF0 kF1 kF2 kF3 kX0 kX1 kX2 kX3 kX4 kY0 kY1 kY2 kY3 kY4
 obtain ⟨kT0, kT1, kT2, kT3, kF0, kF1, kF2, kF3⟩ := blk4 hTO
 obtain ⟨kX0, kX1, kX2, kX3, kX4, kY0, kY1, kY2, kY3, kY4⟩ := blk5 hXO
 have zO := hOO.lt
 have yO := hPO.lt
 refine hK.out _ _ (⟨kT0, kT1, kT2, kT3, kX0, kX1, kX2, kX3, kX4⟩) (fun hHeld => ?_)
 clear hK K
 try simp only [layz]
 refine rz1 3 (fun K hK => ?_)
 go_simp
 refine abs_world (fun wP hw => ?_)
 obtain ⟨hPP, hK, hs, CP, F⟩ := stored5 (v0 := .slice B0 (List.length x.1) d0) (v1 := .slice B1 (List.length x.2.1) d1) (v2 := .slice B2 (List.length x.2.2.1) d2) (v3 := .int .i64 x.2.2.2.1) (v4 := .int .i64 x.2.2.2.2) hPO (.inl hw) (B := B) b_37 CO
 have DP := Lib.hid (F w b_37 DO.out)
 have hOP := (hK _ b_37).trans hOO
 have hTP : Blk wP w2.heap.size 29 #[.slice A1 (List.length t.1) c1, .slice A2 (List.length t.2.1) c2, .slice A3 (List.length t.2.2.1) c3, .slice A4 (List.length t.2.2.2) c4] := (hK _ b_37).trans hTO
 have hXP : Blk wP w3.heap.size 34 #[.slice B0 (List.length x.1) d0, .slice B1 (List.length x.2.1) d1, .slice B2 (List.length x.2.2.1) d2, .int .i64 x.2.2.2.1, .int .i64 x.2.2.2.2] := (hK _ b_37).trans hXO
 have QTP := QTO.keep hs (fun q h1 h2 => hK q b_37)
 have QXP := QXO.keep hs (fun q h1 h2 => hK q b_37)
 have hOP : Blk wP w.heap.size 29 #[.slice A1 (List.length t.1) c1, .slice A2 (List.length t.2.1) c2, .slice A3 (List.length t.2.2.1) c3, .slice A4 (List.length t.2.2.2) c4] := hOP
 clear hw hK hs F
 (try clear p0 p1 p2 p3 p4 g0 g1 g2 g3 g4)
 clear kT0 kT1 kT2 kT3 kF0 kF1 kF2 kF3 kX0 kX1 kX2 kX3 kX4 kY0 kY1 kY2 kY3 kY4
 obtain ⟨kT0, kT1, kT2, kT3, kF0, kF1, kF2, kF3⟩ := blk4 hTP
 obtain ⟨kX0, kX1, kX2, kX3, kX4, kY0, kY1, kY2, kY3, kY4⟩ := blk5 hXP
 have zP := hOP.lt
 have yP := hPP.lt
 refine hK.out _ _ (⟨kT0, kT1, kT2, kT3, kX0, kX1, kX2, kX3, kX4⟩) (fun hHeld => ?_)
 clear hK K
 try simp only [layz]
 refine wpAnyH_done b_35 ?_ _
 refine NoPanic.normal ?_
 clear kT0 kT1 kT2 kT3 kX0 kX1 kX2 kX3 kX4
 (try clear o0 o1 o2 o3 f0 f1 f2 f3)
 (try clear p0 p1 p2 p3 p4 g0 g1 g2 g3 g4)
 obtain ⟨o0, o1, o2, o3, -⟩ := blk4 hOP
 obtain ⟨p0, p1, p2, p3, p4, -⟩ := blk5 hPP
 go_wp2
 refine bodyPost_ret (v := .tuple #[.agg #[.slice A1 (List.length t.1) c1, .slice A2 (List.length t.2.1) c2, .slice A3 (List.length t.2.2.1) c3, .slice A4 (List.length t.2.2.2) c4], .agg #[.slice B0 (List.length x.1) d0, .slice B1 (List.length x.2.1) d1, .slice B2 (List.length x.2.2.1) d2, .int .i64 x.2.2.2.1, .int .i64 x.2.2.2.2]]) (by simp [results, Tryz.results60, go_sem, o0, o1, o2, o3, p0, p1, p2, p3, p4]) rfl ?_
 exact ⟨DP.out, CP, _, t, _, x, rfl, QTP.mono b_37 QTP.1 (Nat.le_refl _), QXP.mono b_37 QXP.1 (Nat.le_refl _), okp, okx⟩
end Go.Proofs.YtldgbnlcnlfmeaaGreat
