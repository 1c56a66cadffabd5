/- Texts of this claim, merged by a program: Dwn. -/
import Derived.Test.YtidnahocnhcoiaaDoorQwP
import Derived.Test.YtidnahocnhcoiaaDoorQw3
import Derived.Test.YtidnahocnhcoiaaDoorQw5
import Derived.Test.YtidnahocnhcoiaaDoorQw7
import Derived.Deep.RegionHeld3
import Derived.Deep.DeepCutAuto
namespace Go.Proofs.YtidnahocnhcoiaaDoor
open Go.RowKit
set_option linter.unusedVariables false
set_option linter.unusedSimpArgs false
theorem mem_wordW {l : List Int} {s : Int} (h : s ∈ l) (hl : l.all (fun s => decide (-1 ≤ s ∧ s ≤ 2147483648)) = true) : -1 ≤ s ∧ s ≤ 2147483648 := by
 have := List.all_eq_true.1 hl s h
 simpa using this
def int3 (a b d : Int) : Prop := (-9223372036854775808 ≤ a ∧ a ≤ 9223372036854775807) ∧ (-9223372036854775808 ≤ b ∧ b ≤ 9223372036854775807) ∧ (-9223372036854775808 ≤ d ∧ d ≤ 9223372036854775807)
def okWant (x : Ty.D tInterest) : Prop := Ty.bulk (.sl .str) x.1 ≤ 100
theorem okWant.bulk {x : Ty.D tInterest} (h : okWant x) : Ty.bulk tInterest x ≤ 100 := by show Ty.bulk (.sl .str) x.1 + (0 + (0 + 0)) ≤ 100; have := h; unfold okWant at this; omega
theorem RdI.want {w : World} {lo hi lo' hi' : Nat} {A : Option Addr} {c : Nat} {n : List (List UInt8)} {a b d : Int} (h : RdI (.sl .str) lo hi w [.slice A (List.length n) c] n) (hi3 : int3 a b d) (h1 : lo' ≤ lo) (h2 : hi ≤ hi') (h3 : hi' ≤ w.heap.size) : RdI tInterest lo' hi' w [.slice A (List.length n) c, .int .i64 a, .int .i64 b, .int .i64 d] (n, a, b, d) :=
 RdI.pr (b := .pr .int (.pr .int .int)) (h.mono h1 h2 h3) (RdI.flat (t := .pr .int (.pr .int .int)) rfl ⟨[_], [_, _], rfl, ⟨rfl, hi3.1⟩, [_], [_], rfl, ⟨rfl, hi3.2.1⟩, ⟨rfl, hi3.2.2⟩⟩ h3)
theorem stored4w {P W : World} {g : Nat} {t : TypeId} {a b c d v0 v1 v2 v3 : Value} (h : Blk P g t #[a, b, c, d]) (hw : W = (((P.setCell ⟨g, 0, none⟩ v0).setCell ⟨g, 1, none⟩ v1).setCell ⟨g, 2, none⟩ v2).setCell ⟨g, 3, none⟩ v3) :
  Blk W g t #[v0, v1, v2, v3] ∧ (∀ q, q ≠ g → W.heap[q]? = P.heap[q]?) ∧ P.heap.size ≤ W.heap.size ∧ (∀ B, B < g → CurT P B → CurT W B) ∧ ∀ (B : Nat) (w0 : World), w0.heap.size ≤ g → Dr B w0 P → Dr B w0 W := by
 subst hw
 exact ⟨(((h.set_ 0 v0).set_ 1 v1).set_ 2 v2).set_ 3 v3, fun q hq => by rw [Below.heap_setCell _ _ _ _ hq, Below.heap_setCell _ _ _ _ hq, Below.heap_setCell _ _ _ _ hq, Below.heap_setCell _ _ _ _ hq], by simp only [World.size_setCell]; exact Nat.le_refl _,
  fun B hB hc => Cur.far (Cur.far (Cur.far (Cur.far hc hB v0) hB v1) hB v2) hB v3, fun B w0 h0 hd => Dr.set (Dr.set (Dr.set (Dr.set hd (.inr h0) v0) (.inr h0) v1) (.inr h0) v2) (.inr h0) v3⟩
theorem wp_hold {P : Program} {s c : Code} {K : Act → World → Prop} {Q : Exit → Act → World → Prop} {a : Act} {w : World} (hk : ∀ a w, c.wp P Q a w → K a w) (h : ∀ K' : Act → World → Prop, Hid (∀ a w, c.wp P Q a w → K' a w) → s.wp P (Exit.then K' Q) a w) : s.wp P (Exit.then K Q) a w := h K (Lib.hid hk)
def wantAt (w : World) (B g : Nat) (wx : World) : Prop := ∃ A c, ∃ x : Ty.D tInterest, okWant x ∧ int3 x.2.1 x.2.2.1 x.2.2.2 ∧ Blk wx w.heap.size 28 #[.slice none 0 0, .int .i64 0, .int .i64 0, .int .i64 0] ∧ Blk wx g 28 #[.slice A (List.length x.1) c, .int .i64 x.2.1, .int .i64 x.2.2.1, .int .i64 x.2.2.2] ∧ RdI (.sl .str) (w.heap.size + 1) wx.heap.size wx [.slice A (List.length x.1) c] x.1 ∧ CurT wx B ∧ Dr B w wx
set_option maxRecDepth 100000 in
set_option maxHeartbeats 4000000 in
theorem C_spec_l7Any (w : World) (B : Nat) (hc : CurT w B) :
  Calls Tryd.prog 30 #[pB B] w (RetDT B w (DrR tInterest w okWant)) := by
 have hB := hc.lt
 go_enter Tryd.func30, Tryd.ntmps30
 go_upto_region 1 with fail
 refine wp_hold b_16 (fun KK HKK => ?_)
 go_wp2_with fail
 refine Calls.mono (C_spec_l7Draw _ B b_6) ?_
 rintro e w1 ⟨hd1, hc1, hA⟩
 obtain ⟨cs1, x, rfl, qx, hok⟩ := DrA.r hA
 obtain ⟨A, c, rfl, -, j1, j2, j3⟩ := rd_Interest qx.rd
 have hb : okWant x := Nat.le_trans (name_bulk hok.1) b_17
 have D1 : Dr B w w1 := b_1
 have z1 := hd1.size
 simp only [World.size_alloc] at z1 qx
 have hO1 : Blk w1 w.heap.size 28 #[.slice none 0 0, .int .i64 0, .int .i64 0, .int .i64 0] := Dr.blk hd1 (Blk.new w _ _) b_18
 have qn := RdI.fst (a := .sl .str) qx
 have qn1 : RdI (.sl .str) (w.heap.size + 1) w1.heap.size w1 [.slice A (List.length x.1) c] x.1 := qn
 clear hd1 hA qx qn hok
 obtain ⟨w2, hw2⟩ : ∃ V, V = w1.alloc (.cells #[.slice A (List.length x.1) c, .int .i64 x.2.1, .int .i64 x.2.2.1, .int .i64 x.2.2.2] 28) := ⟨_, rfl⟩
 have E2 : Dr B w1 w2 := by rw [hw2]; exact new_dr B w1 _
 have hc2 : CurT w2 B := by rw [hw2]; exact hc1.alloc _
 have hK2 : Blk w2 w1.heap.size 28 #[.slice A (List.length x.1) c, .int .i64 x.2.1, .int .i64 x.2.2.1, .int .i64 x.2.2.2] := by rw [hw2]; exact Blk.new _ _ _
 have hO2 := Dr.blk E2 hO1 b_18
 have D2 := D1.trans E2
 have q2 := qn1.dr E2 b_18
 have z2 := hK2.lt
 clear E2 hO1 D1 hc1 qn1
 go_wp2_with fail
 rw [← hw2]
 clear hw2
 refine HKK.out _ _ ?_
 apply wp_seq_k; intro _ _
 go_cut [] (fun wx => wantAt w B w1.heap.size wx)
 case first =>
  go_wp2_with fail
  refine Calls.mono (C_spec_l1Below _ B 12 b_6 b_17 b_17) ?_
  rintro e w3 ⟨hd3, hc3, t, rfl, ht0, ht1⟩
  have E3 : Dr B w2 w3 := b_1
  have z3 := E3.size
  have hO3 := Dr.blk E3 hO2 b_18
  have hK3 := Dr.blk E3 hK2 b_18
  have q3 := q2.dr E3 b_18
  have D3 := Lib.hid (D2.trans E3)
  clear hd3 E3 D2 hO2 hK2 hc2 q2
  have zk := hK3.lt
  rcases (show t = 0 ∨ t = 1 ∨ t = 2 ∨ t = 3 ∨ (t ≠ 0 ∧ t ≠ 1 ∧ t ≠ 2 ∧ t ≠ 3) by omega) with rfl | rfl | rfl | rfl | ht
  ·go_wp2_with fail
   refine Calls.mono (C_spec_l4Any _ B b_6) ?_
   rintro e w4 ⟨hd4, hc4, cs4, n, rfl, qn, hokn⟩
   obtain ⟨An, cn, rfl⟩ := Ty.rd_slv qn.rd
   (try simp only [szz] at qn)
   have E4 : Dr B w3 w4 := b_1
   have hO4 := Dr.blk E4 hO3 b_18
   have hK4 := Dr.blk E4 hK3 b_18
   have q4 := q3.dr E4 b_18
   have D4 := Lib.hid (D3.out.trans E4)
   have zk4 := hK4.lt
   have z4 := E4.size
   clear hd4 E4 D3 hO3 hK3 q3 hc3
   obtain ⟨k0, k1, k2, k3, f0, f1, f2, f3⟩ := blk4w hK4
   go_wp2_with fail
   clear k0 k1 k2 k3 f0 f1 f2 f3
   go_meet
   exact ⟨An, cn, (n, x.2), Nat.le_trans (any_bulk hokn) b_17, ⟨j1, j2, j3⟩, hO4.far (p := ⟨w1.heap.size, 0, none⟩) b_14 _, hK4.set_ 0 _, (qn.set (p := ⟨w1.heap.size, 0, none⟩) (.inl b_14) _).mono b_18 (by rw [World.size_setCell]; exact Nat.le_refl _) (Nat.le_refl _), Cur.far hc4 (p := ⟨w1.heap.size, 0, none⟩) b_14 _, Dr.set D4.out (p := ⟨w1.heap.size, 0, none⟩) (.inr b_14) _⟩
  ·go_wp2_with fail
   refine Calls.mono (C_spec_l1Int _ B _ [-1, 1000000, 1000001] b_6 b_5 b_17 b_17) ?_
   rintro e w4 ⟨hd4, hc4, s, hs, rfl⟩
   have hsb := mem_wordW hs b_17
   have hsi : -9223372036854775808 ≤ s ∧ s ≤ 9223372036854775807 := by omega
   have E4 : Dr B w3 w4 := b_1
   have hO4 := Dr.blk E4 hO3 b_18
   have hK4 := Dr.blk E4 hK3 b_18
   have q4 := q3.dr E4 b_18
   have D4 := Lib.hid (D3.out.trans E4)
   have zk4 := hK4.lt
   have z4 := E4.size
   clear hd4 E4 D3 hO3 hK3 q3 hc3
   obtain ⟨k0, k1, k2, k3, f0, f1, f2, f3⟩ := blk4w hK4
   go_wp2_with fail
   clear k0 k1 k2 k3 f0 f1 f2 f3
   go_meet
   exact ⟨A, c, (x.1, s, x.2.2), hb, ⟨hsi, j2, j3⟩, hO4.far (p := ⟨w1.heap.size, 1, none⟩) b_14 _, hK4.set_ 1 _, (q4.set (p := ⟨w1.heap.size, 1, none⟩) (.inr b_14) _).mono b_18 (by rw [World.size_setCell]; omega) (Nat.le_refl _), Cur.far hc4 (p := ⟨w1.heap.size, 1, none⟩) b_14 _, Dr.set D4.out (p := ⟨w1.heap.size, 1, none⟩) (.inr b_14) _⟩
  ·go_wp2_with fail
   refine Calls.mono (C_spec_l1Int _ B _ [-1, 16, 17] b_6 b_5 b_17 b_17) ?_
   rintro e w4 ⟨hd4, hc4, s, hs, rfl⟩
   have hsb := mem_wordW hs b_17
   have hsi : -9223372036854775808 ≤ s ∧ s ≤ 9223372036854775807 := by omega
   have E4 : Dr B w3 w4 := b_1
   have hO4 := Dr.blk E4 hO3 b_18
   have hK4 := Dr.blk E4 hK3 b_18
   have q4 := q3.dr E4 b_18
   have D4 := Lib.hid (D3.out.trans E4)
   have zk4 := hK4.lt
   have z4 := E4.size
   clear hd4 E4 D3 hO3 hK3 q3 hc3
   obtain ⟨k0, k1, k2, k3, f0, f1, f2, f3⟩ := blk4w hK4
   go_wp2_with fail
   clear k0 k1 k2 k3 f0 f1 f2 f3
   go_meet
   exact ⟨A, c, (x.1, x.2.1, s, x.2.2.2), hb, ⟨j1, hsi, j3⟩, hO4.far (p := ⟨w1.heap.size, 2, none⟩) b_14 _, hK4.set_ 2 _, (q4.set (p := ⟨w1.heap.size, 2, none⟩) (.inr b_14) _).mono b_18 (by rw [World.size_setCell]; omega) (Nat.le_refl _), Cur.far hc4 (p := ⟨w1.heap.size, 2, none⟩) b_14 _, Dr.set D4.out (p := ⟨w1.heap.size, 2, none⟩) (.inr b_14) _⟩
  ·go_wp2_with fail
   refine Calls.mono (C_spec_l1Int _ B _ [0, 20, 21] b_6 b_5 b_17 b_17) ?_
   rintro e w4 ⟨hd4, hc4, s, hs, rfl⟩
   have hsb := mem_wordW hs b_17
   have hsi : -9223372036854775808 ≤ s ∧ s ≤ 9223372036854775807 := by omega
   have E4 : Dr B w3 w4 := b_1
   have hO4 := Dr.blk E4 hO3 b_18
   have hK4 := Dr.blk E4 hK3 b_18
   have q4 := q3.dr E4 b_18
   have D4 := Lib.hid (D3.out.trans E4)
   have zk4 := hK4.lt
   have z4 := E4.size
   clear hd4 E4 D3 hO3 hK3 q3 hc3
   obtain ⟨k0, k1, k2, k3, f0, f1, f2, f3⟩ := blk4w hK4
   go_wp2_with fail
   clear k0 k1 k2 k3 f0 f1 f2 f3
   go_meet
   exact ⟨A, c, (x.1, x.2.1, x.2.2.1, s), hb, ⟨j1, j2, hsi⟩, hO4.far (p := ⟨w1.heap.size, 3, none⟩) b_14 _, hK4.set_ 3 _, (q4.set (p := ⟨w1.heap.size, 3, none⟩) (.inr b_14) _).mono b_18 (by rw [World.size_setCell]; omega) (Nat.le_refl _), Cur.far hc4 (p := ⟨w1.heap.size, 3, none⟩) b_14 _, Dr.set D4.out (p := ⟨w1.heap.size, 3, none⟩) (.inr b_14) _⟩
  ·have p00 : (t == 0) = false := by rw [beq_eq_false_iff_ne]; exact ht.1
   have p10 : (t == 1) = false := by rw [beq_eq_false_iff_ne]; exact ht.2.1
   have p20 : (t == 2) = false := by rw [beq_eq_false_iff_ne]; exact ht.2.2.1
   have p30 : (t == 3) = false := by rw [beq_eq_false_iff_ne]; exact ht.2.2.2
   go_wp2_with fail
   go_meet
   exact ⟨A, c, x, hb, ⟨j1, j2, j3⟩, hO3, hK3, q3.mono b_18 b_18 (Nat.le_refl _), hc3, D3.out⟩
 obtain ⟨wr, hwr⟩ : ∃ V, V = wc := ⟨_, rfl⟩
 subst hwr
 clear q2 hK2 hO2 D2 hc2 hb j1 j2 j3
 obtain ⟨A, c, x, hb, hj, hOr, hKr, hq, hcr, hdr⟩ := hcut
 have HQ := Lib.hid hq
 have hDr := Lib.hid hdr
 clear hq hdr
 obtain ⟨k0, k1, k2, k3, -⟩ := blk4w hKr
 obtain ⟨o0, o1, o2, o3, p0, p1, p2, p3⟩ := blk4w hOr
 have zo := hOr.lt
 go_wp2_with fail
 refine bodyPost_ret (v := .agg #[.slice A (List.length x.1) c, .int .i64 x.2.1, .int .i64 x.2.2.1, .int .i64 x.2.2.2]) (by simp [results, Tryd.results30, go_sem, k0, k1, k2, k3, o0, o1, o2, o3, p0, p1, p2, p3, zo]) rfl ?_
 obtain ⟨wz, hwz⟩ : ∃ V, V = (((wr.setCell ⟨w.heap.size, 0, none⟩ (.slice A (List.length x.1) c)).setCell ⟨w.heap.size, 1, none⟩ (.int .i64 x.2.1)).setCell ⟨w.heap.size, 2, none⟩ (.int .i64 x.2.2.1)).setCell ⟨w.heap.size, 3, none⟩ (.int .i64 x.2.2.2) := ⟨_, rfl⟩
 obtain ⟨-, hk, hs, C, F⟩ := stored4w hOr hwz
 rw [← hwz]
 exact ⟨F B w (Nat.le_refl _) hDr.out, C B b_18 hcr, _, x, rfl, (HQ.out.keep hs (fun q h1 h2 => hk q b_18)).want hj b_18 hs (Nat.le_refl _), hb⟩
set_option maxRecDepth 100000 in
set_option maxHeartbeats 2000000 in
theorem C_spec_DrawEncodeInterest (w : World) (v : Value) (b : List UInt8) (h : (Ty.sl .byte).rd w [v] b) :
  Calls Tryd.prog 5 #[v] w (fun e w' => (∃ cs x, e = .returned (.agg cs.toArray) ∧ tInterest.rd w' cs x ∧ okWant x) ∧ Below w.heap.size w w') := by
 obtain ⟨Ac, cc, rfl, _, _, _⟩ := Ty.rd_sl h
 go_enter Tryd.func5, Tryd.ntmps5
 go_wp2_with fail
 refine Calls.mono (C_spec_l1New _ _ b (Ty.rd_below b_3 h)) ?_
 rintro e w1 ⟨rfl, hb1, hc1⟩
 simp only [World.size_alloc] at hc1 ⊢
 have z1 := hc1.lt
 have hO1 : Blk w1 w.heap.size 28 #[.slice none 0 0, .int .i64 0, .int .i64 0, .int .i64 0] := Blk.below (Blk.new _ _ _) hb1 b_11
 have D1 : Dr (w.heap.size + 1) w w1 := Dr.of (bel_trans b_3 hb1) _
 clear hb1
 go_wp2_with fail
 refine Calls.mono (C_spec_l7Any _ (w.heap.size + 1) b_6) ?_
 rintro e w2 ⟨hd2, hc2, cs2, x, rfl, qx, hok⟩
 obtain ⟨A, c, rfl, -⟩ := rd_Interest qx.rd
 have E2 : Dr (w.heap.size + 1) w1 w2 := b_1
 have z2 := E2.size
 have hO2 := Dr.blk E2 hO1 b_18
 have D2 := D1.trans E2
 clear hd2 E2 D1 hc1 hO1
 obtain ⟨o0, o1, o2, o3, p0, p1, p2, p3⟩ := blk4w hO2
 have zo := hO2.lt
 obtain ⟨wz, hwz⟩ : ∃ V, V = (((w2.setCell ⟨w.heap.size, 0, none⟩ (.slice A (List.length x.1) c)).setCell ⟨w.heap.size, 1, none⟩ (.int .i64 x.2.1)).setCell ⟨w.heap.size, 2, none⟩ (.int .i64 x.2.2.1)).setCell ⟨w.heap.size, 3, none⟩ (.int .i64 x.2.2.2) := ⟨_, rfl⟩
 obtain ⟨-, hk, hs, C, F⟩ := stored4w hO2 hwz
 have QZ := Lib.hid (qx.keep hs (fun q h1 h2 => hk q b_18)).rd
 have DZ := Lib.hid (F (w.heap.size + 1) w (Nat.le_refl _) D2)
 clear qx hk hs C F D2
 go_wp2
 refine bodyPost_ret (v := .agg #[.slice A (List.length x.1) c, .int .i64 x.2.1, .int .i64 x.2.2.1, .int .i64 x.2.2.2]) (by simp [results, Tryd.results5, go_sem, o0, o1, o2, o3, p0, p1, p2, p3, zo]) rfl ?_
 rw [← hwz]
 exact ⟨⟨_, x, rfl, QZ.out, hok⟩, Dr.below DZ.out b_18 (Nat.le_refl _)⟩
set_option maxRecDepth 100000 in
set_option maxHeartbeats 2000000 in
theorem C_spec_DrawDecrementHops (w : World) (v : Value) (b : List UInt8) (h : (Ty.sl .byte).rd w [v] b) :
  Calls Tryd.prog 15 #[v] w (fun e w' => (∃ cs x, e = .returned (.agg cs.toArray) ∧ tInterest.rd w' cs x ∧ okWant x) ∧ Below w.heap.size w w') := by
 obtain ⟨Ac, cc, rfl, _, _, _⟩ := Ty.rd_sl h
 go_enter Tryd.func15, Tryd.ntmps15
 go_wp2_with fail
 refine Calls.mono (C_spec_l1New _ _ b (Ty.rd_below b_3 h)) ?_
 rintro e w1 ⟨rfl, hb1, hc1⟩
 simp only [World.size_alloc] at hc1 ⊢
 have z1 := hc1.lt
 have hO1 : Blk w1 w.heap.size 28 #[.slice none 0 0, .int .i64 0, .int .i64 0, .int .i64 0] := Blk.below (Blk.new _ _ _) hb1 b_11
 have D1 : Dr (w.heap.size + 1) w w1 := Dr.of (bel_trans b_3 hb1) _
 clear hb1
 go_wp2_with fail
 refine Calls.mono (C_spec_l7Any _ (w.heap.size + 1) b_6) ?_
 rintro e w2 ⟨hd2, hc2, cs2, x, rfl, qx, hok⟩
 obtain ⟨A, c, rfl, -⟩ := rd_Interest qx.rd
 have E2 : Dr (w.heap.size + 1) w1 w2 := b_1
 have z2 := E2.size
 have hO2 := Dr.blk E2 hO1 b_18
 have D2 := D1.trans E2
 clear hd2 E2 D1 hc1 hO1
 obtain ⟨o0, o1, o2, o3, p0, p1, p2, p3⟩ := blk4w hO2
 have zo := hO2.lt
 obtain ⟨wz, hwz⟩ : ∃ V, V = (((w2.setCell ⟨w.heap.size, 0, none⟩ (.slice A (List.length x.1) c)).setCell ⟨w.heap.size, 1, none⟩ (.int .i64 x.2.1)).setCell ⟨w.heap.size, 2, none⟩ (.int .i64 x.2.2.1)).setCell ⟨w.heap.size, 3, none⟩ (.int .i64 x.2.2.2) := ⟨_, rfl⟩
 obtain ⟨-, hk, hs, C, F⟩ := stored4w hO2 hwz
 have QZ := Lib.hid (qx.keep hs (fun q h1 h2 => hk q b_18)).rd
 have DZ := Lib.hid (F (w.heap.size + 1) w (Nat.le_refl _) D2)
 clear qx hk hs C F D2
 go_wp2
 refine bodyPost_ret (v := .agg #[.slice A (List.length x.1) c, .int .i64 x.2.1, .int .i64 x.2.2.1, .int .i64 x.2.2.2]) (by simp [results, Tryd.results15, go_sem, o0, o1, o2, o3, p0, p1, p2, p3, zo]) rfl ?_
 rw [← hwz]
 exact ⟨⟨_, x, rfl, QZ.out, hok⟩, Dr.below DZ.out b_18 (Nat.le_refl _)⟩
set_option maxRecDepth 100000 in
set_option maxHeartbeats 2000000 in
theorem C_spec_DrawDecodeInterest (w : World) (v : Value) (b : List UInt8) (h : (Ty.sl .byte).rd w [v] b) :
  Calls Tryd.prog 7 #[v] w (fun e w' => (∃ A l c, e = .returned (.slice A (List.length l) c) ∧ (Ty.sl .byte).rd w' [.slice A (List.length l) c] l ∧ List.length l ≤ 1001) ∧ Below w.heap.size w w') := by
 obtain ⟨Ac, cc, rfl, _, _, _⟩ := Ty.rd_sl h
 go_enter Tryd.func7, Tryd.ntmps7
 go_wp2_with fail
 refine Calls.mono (C_spec_l1New _ _ b h) ?_
 rintro e w1 ⟨rfl, hb1, hc1⟩
 have z1 := hc1.lt
 have D1 : Dr w.heap.size w w1 := Dr.of hb1 _
 clear hb1
 go_wp2_with fail
 refine Calls.mono (C_spec_l7Draw _ w.heap.size b_6) ?_
 rintro e w2 ⟨hd2, hc2, hA⟩
 obtain ⟨cs2, x, rfl, qx, hok⟩ := DrA.r hA
 have E2 : Dr w.heap.size w1 w2 := b_1
 have z2 := E2.size
 have D2 := D1.trans E2
 have hxb : Ty.bulk tInterest x ≤ 1048576 := by have h1 := name_bulk hok.1; show Ty.bulk (.sl .str) x.1 + (0 + (0 + 0)) ≤ 1048576; omega
 clear hd2 E2 D1 hc1 hA
 go_wp2_with fail
 refine Calls.mono (C_spec_EncodeInterest _ _ x qx.rd hxb) ?_
 rintro e w3 ⟨A3, c3, fp3, rfl, how3, hfr3, hb3⟩
 have z3 := hb3.size
 have D3 := D2.then_ hb3
 have hc3 : CurT w3 w.heap.size := Cur.below hc2 hb3
 have hl3 := encInterest_len x
 have r3 := Ty.ow_rd how3
 generalize f_EncodeInterest x = y at r3 hl3 ⊢
 clear how3 hfr3 hb3 D2 hc2 qx
 go_wp2_with fail
 refine Calls.mono (C_spec_l1Bent _ w.heap.size _ y b_6 r3 b_18) ?_
 rintro e w4 ⟨hd4, hc4, A4, r, c4, rfl, Q4, hl4⟩
 have E4 : Dr w.heap.size w3 w4 := b_1
 have D4 := D3.trans E4
 go_wp2
 go_ret
 exact ⟨⟨_, r, _, rfl, Q4.rd, by omega⟩, Dr.below D4 (Nat.le_refl _) (Nat.le_refl _)⟩
set_option maxRecDepth 100000 in
set_option maxHeartbeats 2000000 in
theorem C_spec_DrawAppendName (w : World) (v : Value) (b : List UInt8) (h : (Ty.sl .byte).rd w [v] b) :
  Calls Tryd.prog 10 #[v] w (fun e w' => (∃ A l c cs n, e = .returned (.tuple #[.slice A (List.length l) c, .agg cs.toArray]) ∧ (Ty.sl .byte).rd w' [.slice A (List.length l) c] l ∧ List.length l ≤ 3 ∧ (Ty.sl .str).rd w' cs n ∧ Ty.bulk (.sl .str) n ≤ 100) ∧ Below w.heap.size w w') := by
 obtain ⟨Ac, cc, rfl, _, _, _⟩ := Ty.rd_sl h
 go_enter Tryd.func10, Tryd.ntmps10
 go_wp2_with fail
 refine Calls.mono (C_spec_l1New _ _ b (Ty.rd_below b_3 h)) ?_
 rintro e w1 ⟨rfl, hb1, hc1⟩
 simp only [World.size_alloc] at hc1 ⊢
 have z1 := hc1.lt
 have hO1 : Blk w1 w.heap.size 26 #[.slice none 0 0] := Blk.below (Blk.new _ _ _) hb1 b_11
 have D1 : Dr (w.heap.size + 1) w w1 := Dr.of (bel_trans b_3 hb1) _
 clear hb1
 go_wp2_with fail
 refine Calls.mono (C_spec_l1Below _ (w.heap.size + 1) 3 b_6 b_17 b_17) ?_
 rintro e w2 ⟨hd2, hc2, k, rfl, hk0, hk1⟩
 obtain ⟨m, rfl⟩ : ∃ m : Nat, k = m := ⟨k.toNat, by omega⟩
 have E2 : Dr (w.heap.size + 1) w1 w2 := b_1
 have z2 := E2.size
 have hO2 := Dr.blk E2 hO1 b_18
 have D2 := D1.trans E2
 clear hd2 E2 D1 hc1 hO1
 go_wp2_with fail
 refine Calls.mono (C_spec_l1Bytes _ (w.heap.size + 1) m b_6 b_18) ?_
 rintro e w3 ⟨hd3, hc3, A3, l, c3, fp3, rfl, how3, hfr3, hlb⟩
 have E3 : Dr (w.heap.size + 1) w2 w3 := b_1
 have z3 := E3.size
 have hO3 := Dr.blk E3 hO2 b_18
 have D3 := D2.trans E3
 have Q3 := RdI.of_owF how3 hfr3 (Nat.le_refl _)
 have hll : List.length l ≤ 3 := by omega
 clear hd3 E3 D2 hc2 hO2 how3 hfr3 hlb
 go_wp2_with fail
 refine Calls.mono (C_spec_l4Any _ (w.heap.size + 1) b_6) ?_
 rintro e w4 ⟨hd4, hc4, cs4, n, rfl, qn, hokn⟩
 obtain ⟨An, cn, rfl⟩ := Ty.rd_slv qn.rd
 have E4 : Dr (w.heap.size + 1) w3 w4 := b_1
 have z4 := E4.size
 have hO4 := Dr.blk E4 hO3 b_18
 have D4 := D3.trans E4
 have Q4 := Q3.dr E4 b_18
 have o0 := hO4.cell 0
 have p0 : w4.frozen? ⟨w.heap.size, 0, none⟩ = false := hO4.frozen 0
 have zo := hO4.lt
 (try simp only [World.size_drew, size_drewN] at qn Q4)
 have QL := Lib.hid (Q4.set (p := ⟨w.heap.size, 0, none⟩) (.inl b_14) (.slice An (List.length n) cn)).rd
 have QN := Lib.hid (qn.set (p := ⟨w.heap.size, 0, none⟩) (.inl b_14) (.slice An (List.length n) cn)).rd
 have DZ := Lib.hid (Dr.set D4 (p := ⟨w.heap.size, 0, none⟩) (.inr b_14) (.slice An (List.length n) cn))
 clear hd4 E4 D3 hc3 hO3 Q3 Q4 qn D4
 go_wp2
 refine bodyPost_ret (v := .tuple #[.slice A3 (List.length l) c3, .agg #[.slice An (List.length n) cn]]) (by simp [results, Tryd.results10, go_sem, o0, p0, zo]) rfl ?_
 exact ⟨⟨_, l, _, _, n, rfl, QL.out, hll, QN.out, Nat.le_trans (any_bulk hokn) b_17⟩, Dr.below DZ.out b_18 (Nat.le_refl _)⟩
set_option maxRecDepth 100000 in
set_option maxHeartbeats 4000000 in
theorem C_spec_DrawEqualInterests (w : World) (v : Value) (b : List UInt8) (h : (Ty.sl .byte).rd w [v] b) :
  Calls Tryd.prog 14 #[v] w (fun e w' => (∃ cs x cs' y, e = .returned (.tuple #[.agg cs.toArray, .agg cs'.toArray]) ∧ tInterest.rd w' cs x ∧ okWant x ∧ tInterest.rd w' cs' y ∧ okWant y) ∧ Below w.heap.size w w') := by
 obtain ⟨Ac, cc, rfl, _, _, _⟩ := Ty.rd_sl h
 go_enter Tryd.func14, Tryd.ntmps14
 go_wp2_with fail
 refine Calls.mono (C_spec_l1New _ _ b (Ty.rd_below b_3 h)) ?_
 rintro e w1 ⟨rfl, hb1, hc1⟩
 simp only [World.size_alloc] at hc1 ⊢
 have z1 := hc1.lt
 have hO1 : Blk w1 w.heap.size 28 #[.slice none 0 0, .int .i64 0, .int .i64 0, .int .i64 0] := Blk.below ((Blk.new _ _ _).alloc _) hb1 b_11
 have hP1 : Blk w1 (w.heap.size + 1) 28 #[.slice none 0 0, .int .i64 0, .int .i64 0, .int .i64 0] := by
  have := Blk.new (w.alloc (.cells #[.slice none 0 0, .int .i64 0, .int .i64 0, .int .i64 0] 28)) 28 #[.slice none 0 0, .int .i64 0, .int .i64 0, .int .i64 0]
  simp only [World.size_alloc] at this
  exact Blk.below this hb1 b_11
 have D1 : Dr (w.heap.size + 1 + 1) w w1 := Dr.of (bel_trans b_3 hb1) _
 clear hb1
 go_wp2_with fail
 refine Calls.mono (C_spec_l7Any _ (w.heap.size + 1 + 1) b_6) ?_
 rintro e w2 ⟨hd2, hc2, cs2, x, rfl, qx, hok⟩
 obtain ⟨A, c, rfl, -⟩ := rd_Interest qx.rd
 have E2 : Dr (w.heap.size + 1 + 1) w1 w2 := b_1
 have z2 := E2.size
 have hO2 := Dr.blk E2 hO1 b_18
 have hP2 := Dr.blk E2 hP1 b_18
 have D2 := D1.trans E2
 clear hd2 E2 D1 hc1 hO1 hP1
 obtain ⟨w3, hw3⟩ : ∃ V, V = w2.alloc (.cells #[.slice A (List.length x.1) c, .int .i64 x.2.1, .int .i64 x.2.2.1, .int .i64 x.2.2.2] 28) := ⟨_, rfl⟩
 have E3 : Dr (w.heap.size + 1 + 1) w2 w3 := by rw [hw3]; exact new_dr (w.heap.size + 1 + 1) w2 _
 have hc3 : CurT w3 (w.heap.size + 1 + 1) := by rw [hw3]; exact hc2.alloc _
 have hK3 : Blk w3 w2.heap.size 28 #[.slice A (List.length x.1) c, .int .i64 x.2.1, .int .i64 x.2.2.1, .int .i64 x.2.2.2] := by rw [hw3]; exact Blk.new _ _ _
 have z3 := hK3.lt
 have hO3 := Dr.blk E3 hO2 b_18
 have hP3 := Dr.blk E3 hP2 b_18
 have q3 := qx.dr E3 b_18
 have D3 := D2.trans E3
 clear E3 hO2 hP2 D2 hc2 qx
 go_wp2_with fail
 rw [← hw3]
 clear hw3
 refine Calls.mono (C_spec_l1Once _ (w.heap.size + 1 + 1) 2 b_6 b_17 b_17) ?_
 rintro e w4 ⟨hd4, hc4, bo, rfl⟩
 have E4 : Dr (w.heap.size + 1 + 1) w3 w4 := b_1
 have z4 := E4.size
 have hO4 := Dr.blk E4 hO3 b_18
 have hP4 := Dr.blk E4 hP3 b_18
 have hK4 := Dr.blk E4 hK3 b_18
 have Q4 := Lib.hid (q3.dr E4 b_18)
 have D4 := Lib.hid (D3.trans E4)
 clear hd4 E4 D3 hc3 hO3 hP3 hK3 q3
 have HC : Hid (∀ V, Dr (w.heap.size + 1 + 1) w4 V → V.cell? ⟨w2.heap.size, 0, none⟩ = some (.slice A (List.length x.1) c) ∧ V.cell? ⟨w2.heap.size, 1, none⟩ = some (.int .i64 x.2.1) ∧ V.cell? ⟨w2.heap.size, 2, none⟩ = some (.int .i64 x.2.2.1) ∧ V.cell? ⟨w2.heap.size, 3, none⟩ = some (.int .i64 x.2.2.2)) := fun V hV => by
  obtain ⟨a0, a1, a2, a3, -⟩ := blk4w (Dr.blk hV hK4 b_18)
  exact ⟨a0, a1, a2, a3⟩
 obtain ⟨k0, k1, k2, k3, -⟩ := blk4w hK4
 cases bo with
 | true =>
  go_wp2_with fail
  clear k0 k1 k2 k3
  refine wp_region_noPanic ?_
  refine wp_region_held_drew (S := (fun V => V.cell? ⟨w2.heap.size, 0, none⟩ = some (.slice A (List.length x.1) c) ∧ V.cell? ⟨w2.heap.size, 1, none⟩ = some (.int .i64 x.2.1) ∧ V.cell? ⟨w2.heap.size, 2, none⟩ = some (.int .i64 x.2.2.1) ∧ V.cell? ⟨w2.heap.size, 3, none⟩ = some (.int .i64 x.2.2.2))) b_15 ?_ (fun hHeld => ?_)
  ·exact HC.out _ (Dr.drew (Dr.refl _ _))
  refine tkz2 0 1 ?_
  try simp only [layz]
  refine rz1 2 (fun K hK => ?_)
  go_simp
  go_at_call 47
  refine Calls.mono (C_spec_l7Copy _ _ x (by first | exact Q4.out.rd | exact Q4.out.drew.rd) (by have := Ty.bulk_len hok; omega)) ?_
  rintro e w5 ⟨csy, fpy, rfl, howy, hfry, hb5⟩
  obtain ⟨E5, z5⟩ := ez w4 (Dr.of hb5 (w.heap.size + 1 + 1))
  have hc5 : CurT w5 (w.heap.size + 1 + 1) := Cur.below (cuz hc4) hb5
  have QY := RdI.of_owF howy hfry (Nat.le_refl _)
  (try simp only [szz] at QY)
  obtain ⟨Ay, cy, rfl, -⟩ := rd_Interest QY.rd
  clear howy hfry
  clear hb5
  refine hK.out _ _ (HC.out _ (drz E5)) (fun hHeld => ?_)
  clear hK K
  try simp only [layz]
  refine rz1 3 (fun K hK => ?_)
  have F5 : Dr (w.heap.size + 1 + 1) w4 w5 := (drz E5)
  have hO5 := Dr.blk F5 hO4 b_18
  have hP5 := Dr.blk F5 hP4 b_18
  have hK5 := Dr.blk F5 hK4 b_18
  have Q5 := Q4.out.dr F5 b_18
  have D5 := D4.out.trans F5
  obtain ⟨p0, p1, p2, p3, g0, g1, g2, g3⟩ := blk4w hO5
  have zp := hO5.lt
  go_simp
  refine abs_world (fun wO hw => ?_)
  obtain ⟨hOO, hk, hs, -, F⟩ := stored4w (v0 := .slice A (List.length x.1) c) (v1 := .int .i64 x.2.1) (v2 := .int .i64 x.2.2.1) (v3 := .int .i64 x.2.2.2) hO5 hw
  have DOO := Lib.hid (F (w.heap.size + 1 + 1) w b_18 D5)
  have QO := Lib.hid (Q5.keep hs (fun q h1 h2 => hk q b_18))
  have QYO := Lib.hid (QY.keep hs (fun q h1 h2 => hk q b_18))
  have hKO : Blk wO w2.heap.size 28 #[.slice A (List.length x.1) c, .int .i64 x.2.1, .int .i64 x.2.2.1, .int .i64 x.2.2.2] := (hk _ b_18).trans hK5
  have hPO : Blk wO (w.heap.size + 1) 28 #[.slice none 0 0, .int .i64 0, .int .i64 0, .int .i64 0] := (hk _ b_18).trans hP5
  obtain ⟨a0, a1, a2, a3, -⟩ := blk4w hKO
  clear p0 p1 p2 p3 g0 g1 g2 g3 zp hw hk hs F
  refine hK.out _ _ (⟨a0, a1, a2, a3⟩) (fun hHeld => ?_)
  clear hK K
  try simp only [layz]
  refine rz1 4 (fun K hK => ?_)
  obtain ⟨p0, p1, p2, p3, g0, g1, g2, g3⟩ := blk4w hPO
  have zp := hPO.lt
  go_simp
  refine abs_world (fun wP hw => ?_)
  obtain ⟨hPP, hk, hs, -, F⟩ := stored4w (v0 := .slice Ay (List.length x.1) cy) (v1 := .int .i64 x.2.1) (v2 := .int .i64 x.2.2.1) (v3 := .int .i64 x.2.2.2) hPO hw
  have DPP := Lib.hid (F (w.heap.size + 1 + 1) w b_18 DOO.out)
  have QP := Lib.hid (QO.out.keep hs (fun q h1 h2 => hk q b_18))
  have QYP := Lib.hid (QYO.out.keep hs (fun q h1 h2 => hk q b_18))
  have hKP : Blk wP w2.heap.size 28 #[.slice A (List.length x.1) c, .int .i64 x.2.1, .int .i64 x.2.2.1, .int .i64 x.2.2.2] := (hk _ b_18).trans hKO
  have hOP : Blk wP w.heap.size 28 #[.slice A (List.length x.1) c, .int .i64 x.2.1, .int .i64 x.2.2.1, .int .i64 x.2.2.2] := (hk _ b_18).trans hOO
  clear a0 a1 a2 a3
  obtain ⟨a0, a1, a2, a3, -⟩ := blk4w hKP
  clear p0 p1 p2 p3 g0 g1 g2 g3 zp hw hk hs F
  refine hK.out _ _ (⟨a0, a1, a2, a3⟩) (fun hHeld => ?_)
  clear hK K
  try simp only [layz]
  refine wpAnyH_done b_15 ?_ _
  refine NoPanic.normal ?_
  clear a0 a1 a2 a3
  go_wp2
  obtain ⟨o0, o1, o2, o3, -⟩ := blk4w hOP
  obtain ⟨p0, p1, p2, p3, -⟩ := blk4w hPP
  refine bodyPost_ret (v := .tuple #[.agg #[.slice A (List.length x.1) c, .int .i64 x.2.1, .int .i64 x.2.2.1, .int .i64 x.2.2.2], .agg #[.slice Ay (List.length x.1) cy, .int .i64 x.2.1, .int .i64 x.2.2.1, .int .i64 x.2.2.2]]) (by simp [results, Tryd.results14, go_sem, o0, o1, o2, o3, p0, p1, p2, p3]) rfl ?_
  exact ⟨⟨_, x, _, x, rfl, QP.out.rd, hok, QYP.out.rd, hok⟩, Dr.below DPP.out b_18 (Nat.le_refl _)⟩
 | false =>
  go_wp2_with fail
  clear k0 k1 k2 k3
  refine wp_region_noPanic ?_
  refine wp_region_held_drew (S := (fun V => V.cell? ⟨w2.heap.size, 0, none⟩ = some (.slice A (List.length x.1) c) ∧ V.cell? ⟨w2.heap.size, 1, none⟩ = some (.int .i64 x.2.1) ∧ V.cell? ⟨w2.heap.size, 2, none⟩ = some (.int .i64 x.2.2.1) ∧ V.cell? ⟨w2.heap.size, 3, none⟩ = some (.int .i64 x.2.2.2))) b_15 ?_ (fun hHeld => ?_)
  ·exact HC.out _ (Dr.drew (Dr.refl _ _))
  refine tkz2 0 1 ?_
  try simp only [layz]
  refine rz1 2 (fun K hK => ?_)
  go_simp
  go_at_call 30
  refine Calls.mono (C_spec_l7Any _ (w.heap.size + 1 + 1) (cuz hc4)) ?_
  rintro e w5 ⟨hd5, hc5, csy, y, rfl, QY, hoky⟩
  obtain ⟨E5, z5⟩ := ez w4 hd5
  (try simp only [szz] at QY)
  obtain ⟨Ay, cy, rfl, -⟩ := rd_Interest QY.rd
  clear hd5
  refine hK.out _ _ (HC.out _ (drz E5)) (fun hHeld => ?_)
  clear hK K
  try simp only [layz]
  refine rz1 3 (fun K hK => ?_)
  have F5 : Dr (w.heap.size + 1 + 1) w4 w5 := (drz E5)
  have hO5 := Dr.blk F5 hO4 b_18
  have hP5 := Dr.blk F5 hP4 b_18
  have hK5 := Dr.blk F5 hK4 b_18
  have Q5 := Q4.out.dr F5 b_18
  have D5 := D4.out.trans F5
  obtain ⟨p0, p1, p2, p3, g0, g1, g2, g3⟩ := blk4w hO5
  have zp := hO5.lt
  go_simp
  refine abs_world (fun wO hw => ?_)
  obtain ⟨hOO, hk, hs, -, F⟩ := stored4w (v0 := .slice A (List.length x.1) c) (v1 := .int .i64 x.2.1) (v2 := .int .i64 x.2.2.1) (v3 := .int .i64 x.2.2.2) hO5 hw
  have DOO := Lib.hid (F (w.heap.size + 1 + 1) w b_18 D5)
  have QO := Lib.hid (Q5.keep hs (fun q h1 h2 => hk q b_18))
  have QYO := Lib.hid (QY.keep hs (fun q h1 h2 => hk q b_18))
  have hKO : Blk wO w2.heap.size 28 #[.slice A (List.length x.1) c, .int .i64 x.2.1, .int .i64 x.2.2.1, .int .i64 x.2.2.2] := (hk _ b_18).trans hK5
  have hPO : Blk wO (w.heap.size + 1) 28 #[.slice none 0 0, .int .i64 0, .int .i64 0, .int .i64 0] := (hk _ b_18).trans hP5
  obtain ⟨a0, a1, a2, a3, -⟩ := blk4w hKO
  clear p0 p1 p2 p3 g0 g1 g2 g3 zp hw hk hs F
  refine hK.out _ _ (⟨a0, a1, a2, a3⟩) (fun hHeld => ?_)
  clear hK K
  try simp only [layz]
  refine rz1 4 (fun K hK => ?_)
  obtain ⟨p0, p1, p2, p3, g0, g1, g2, g3⟩ := blk4w hPO
  have zp := hPO.lt
  go_simp
  refine abs_world (fun wP hw => ?_)
  obtain ⟨hPP, hk, hs, -, F⟩ := stored4w (v0 := .slice Ay (List.length y.1) cy) (v1 := .int .i64 y.2.1) (v2 := .int .i64 y.2.2.1) (v3 := .int .i64 y.2.2.2) hPO hw
  have DPP := Lib.hid (F (w.heap.size + 1 + 1) w b_18 DOO.out)
  have QP := Lib.hid (QO.out.keep hs (fun q h1 h2 => hk q b_18))
  have QYP := Lib.hid (QYO.out.keep hs (fun q h1 h2 => hk q b_18))
  have hKP : Blk wP w2.heap.size 28 #[.slice A (List.length x.1) c, .int .i64 x.2.1, .int .i64 x.2.2.1, .int .i64 x.2.2.2] := (hk _ b_18).trans hKO
  have hOP : Blk wP w.heap.size 28 #[.slice A (List.length x.1) c, .int .i64 x.2.1, .int .i64 x.2.2.1, .int .i64 x.2.2.2] := (hk _ b_18).trans hOO
  clear a0 a1 a2 a3
  obtain ⟨a0, a1, a2, a3, -⟩ := blk4w hKP
  clear p0 p1 p2 p3 g0 g1 g2 g3 zp hw hk hs F
  refine hK.out _ _ (⟨a0, a1, a2, a3⟩) (fun hHeld => ?_)
  clear hK K
  try simp only [layz]
  refine wpAnyH_done b_15 ?_ _
  refine NoPanic.normal ?_
  clear a0 a1 a2 a3
  go_wp2
  obtain ⟨o0, o1, o2, o3, -⟩ := blk4w hOP
  obtain ⟨p0, p1, p2, p3, -⟩ := blk4w hPP
  refine bodyPost_ret (v := .tuple #[.agg #[.slice A (List.length x.1) c, .int .i64 x.2.1, .int .i64 x.2.2.1, .int .i64 x.2.2.2], .agg #[.slice Ay (List.length y.1) cy, .int .i64 y.2.1, .int .i64 y.2.2.1, .int .i64 y.2.2.2]]) (by simp [results, Tryd.results14, go_sem, o0, o1, o2, o3, p0, p1, p2, p3]) rfl ?_
  exact ⟨⟨_, x, _, y, rfl, QP.out.rd, hok, QYP.out.rd, hoky⟩, Dr.below DPP.out b_18 (Nat.le_refl _)⟩
set_option maxRecDepth 100000 in
set_option maxHeartbeats 2000000 in
theorem C_spec_DrawReadName (w : World) (v : Value) (b : List UInt8) (h : (Ty.sl .byte).rd w [v] b) :
  Calls Tryd.prog 11 #[v] w (fun e w' => (∃ A l c i, e = .returned (.tuple #[.slice A (List.length l) c, .int .i64 i]) ∧ (Ty.sl .byte).rd w' [.slice A (List.length l) c] l ∧ List.length l ≤ 1001 ∧ (-1 ≤ i ∧ i ≤ 99)) ∧ Below w.heap.size w w') := by
 obtain ⟨Ac, cc, rfl, _, _, _⟩ := Ty.rd_sl h
 go_enter Tryd.func11, Tryd.ntmps11
 go_wp2_with fail
 refine Calls.mono (C_spec_l1New _ _ b h) ?_
 rintro e w1 ⟨rfl, hb1, hc1⟩
 have z1 := hc1.lt
 have D1 : Dr w.heap.size w w1 := Dr.of hb1 _
 clear hb1
 go_wp2_with fail
 obtain ⟨w2, hw2⟩ : ∃ V, V = w1.alloc (.cells #[.int .u8 9] 5) := ⟨_, rfl⟩
 have E2 : Dr w.heap.size w1 w2 := by rw [hw2]; exact new_dr _ w1 _
 have hc2 : CurT w2 w.heap.size := by rw [hw2]; exact hc1.alloc _
 have G2 : GRow .byte w1.heap.size [] w2 5 (.slice (some ⟨w1.heap.size, 0, none⟩) 1 1) [9] := by rw [hw2]; exact GRow.ofRow rfl (Row.lit1 flatB w1 5 9 trivial (Nat.le_refl _))
 have z2 : w1.heap.size < w2.heap.size := by rw [hw2, World.size_alloc]; omega
 have D2 := D1.trans E2
 rw [← hw2]
 clear hw2 E2 D1 hc1
 refine Calls.mono (C_spec_l4Any _ w.heap.size b_6) ?_
 rintro e w3 ⟨hd3, hc3, cs3, n, rfl, q3, hokn⟩
 have E3 : Dr w.heap.size w2 w3 := b_1
 have z3 := E3.size
 have D3 := D2.trans E3
 have r3 := (G2.dr E3 b_18).rd
 clear hd3 E3 D2 hc2 G2
 go_wp2_with fail
 refine Calls.mono (C_spec_AppendName _ _ [9] _ n r3 q3.rd b_17) ?_
 rintro e w4 hr
 obtain ⟨A4, c4, fp4, rfl, how4, hfr4, hb4⟩ := RetRow.sl hr
 have z4 := hb4.size
 have D4 := D3.then_ hb4
 have hc4 : CurT w4 w.heap.size := Cur.below hc3 hb4
 have hl4 : (f_AppendName [9] n).length ≤ 1000 := by have := appendName_len [9] n; simp only [List.length_cons, List.length_nil] at this; omega
 have r4 := Ty.ow_rd how4
 generalize f_AppendName [9] n = y at r4 hl4 ⊢
 clear how4 hfr4 hb4 hr D3 hc3 q3 r3
 go_wp2_with fail
 refine Calls.mono (C_spec_l1Bent _ w.heap.size _ y b_6 r4 b_18) ?_
 rintro e w5 ⟨hd5, hc5, A5, r, c5, rfl, Q5, hl5⟩
 have E5 : Dr w.heap.size w4 w5 := b_1
 have z5 := E5.size
 have D5 := D4.trans E5
 clear hd5 E5 D4 hc4
 go_wp2_with fail
 refine Calls.mono (C_spec_l1Int _ w.heap.size _ [1, 1, 1, 0, -1, 99] b_6 b_5 b_17 b_17) ?_
 rintro e w6 ⟨hd6, hc6, i, hi, rfl⟩
 have E6 : Dr w.heap.size w5 w6 := b_1
 have D6 := D5.trans E6
 have Q6 := Q5.dr E6 b_18
 have hib : -1 ≤ i ∧ i ≤ 99 := by simp at hi; rcases hi with rfl | rfl | rfl | rfl <;> decide
 clear hi
 go_wp2
 refine bodyPost_ret (v := .tuple #[.slice A5 (List.length r) c5, .int .i64 i]) (by simp [results, Tryd.results11, go_sem]) rfl ?_
 exact ⟨⟨_, r, _, i, rfl, Q6.rd, by omega, hib⟩, Dr.below D6 (Nat.le_refl _) (Nat.le_refl _)⟩
end Go.Proofs.YtidnahocnhcoiaaDoor
