/- Texts of this claim, merged by a program: Xdk Dth. -/
import Derived.Test.YtldgbnlcnlfmeaaQhP
import Derived.Test.YtldgbnlcnlfmeaaQh9
import Derived.Test.YtldgbnlcnlfmeaaQh7
import Derived.Test.YtldgbnlcnlfmeaaQh5
import Derived.Deep.RegionHeld3
namespace Go.Proofs.Ytldgbnlcnlfmeaa
open Go.RowKit
set_option linter.unusedVariables false
set_option linter.unusedSimpArgs false
theorem stored5n {P W : World} {g : Nat} {t : TypeId} {a b c d e v0 v1 v2 v3 v4 : Value} (h : Blk P g t #[a, b, c, d, e]) (hw : W = (((((P.setCell ⟨g, 0, none⟩ v0).setCell ⟨g, 1, none⟩ v1).setCell ⟨g, 2, none⟩ v2).setCell ⟨g, 3, none⟩ v3).setCell ⟨g, 4, none⟩ v4) ∨ W = (((((P.setCell ⟨g, 0, none⟩ v0).setCell ⟨g, 1, none⟩ v1).setCell ⟨g, 2, none⟩ v2).setCell ⟨g, 3, none⟩ v3).setCell ⟨g, 4, none⟩ v4).drew) :
  Blk W g t #[v0, v1, v2, v3, v4] ∧ (∀ q, q ≠ g → W.heap[q]? = P.heap[q]?) ∧ P.heap.size ≤ W.heap.size ∧ ∀ (w0 : World) (B : Nat), w0.heap.size ≤ g → Dr B w0 P → Dr B w0 W := by
 have hb : Blk (((((P.setCell ⟨g, 0, none⟩ v0).setCell ⟨g, 1, none⟩ v1).setCell ⟨g, 2, none⟩ v2).setCell ⟨g, 3, none⟩ v3).setCell ⟨g, 4, none⟩ v4) g t #[v0, v1, v2, v3, v4] := (Blk.set_ (Blk.set_ (Blk.set_ (Blk.set_ (Blk.set_ h 0 v0) 1 v1) 2 v2) 3 v3) 4 v4)
 have hD : ∀ (w0 : World) (B : Nat), w0.heap.size ≤ g → Dr B w0 P → Dr B w0 (((((P.setCell ⟨g, 0, none⟩ v0).setCell ⟨g, 1, none⟩ v1).setCell ⟨g, 2, none⟩ v2).setCell ⟨g, 3, none⟩ v3).setCell ⟨g, 4, none⟩ v4) := fun w0 B h0 hd => Dr.set (Dr.set (Dr.set (Dr.set (Dr.set hd (.inr h0) v0) (.inr h0) v1) (.inr h0) v2) (.inr h0) v3) (.inr h0) v4
 rcases hw with rfl | rfl
 ·exact ⟨hb, fun q hq => keep5 _ _ _ _ _ _ _ hq, by simp only [World.size_setCell]; exact Nat.le_refl _, hD⟩
 ·exact ⟨hb.drew, fun q hq => keep5d _ _ _ _ _ _ _ hq, by simp only [World.size_setCell, World.size_drew]; exact Nat.le_refl _, fun w0 B h0 hd => (hD w0 B h0 hd).drew⟩
theorem encData_small (x : tData.D) : (f_EncodeData x).length ≤ 300 := by
 unfold f_EncodeData
 split
 ·rename_i h
  unfold f_ValidData at h
  simp only [Bool.and_eq_true, decide_eq_true_eq] at h
  have h1 := appendName_len [] x.1
  have h2 := appendBytes_len (f_AppendName [] x.1) x.2.1
  have h3 := appendName_len (f_AppendBytes (f_AppendName [] x.1) x.2.1) x.2.2.1
  have h4 := encodeInts_len [x.2.2.2.1, x.2.2.2.2]
  simp only [List.length_nil, List.length_cons] at h1 h4
  rw [List.length_append]
  omega
 ·simp
theorem mem_vk {s k : Int} (h : s ∈ ([k, 0, 2147483647] : List Int)) (hk : -9223372036854775808 ≤ k ∧ k ≤ 9223372036854775807) : -9223372036854775808 ≤ s ∧ s ≤ 9223372036854775807 := by
 simp at h; rcases h with rfl | rfl | rfl <;> omega
end Go.Proofs.Ytldgbnlcnlfmeaa
namespace Go.Proofs.Ytldgbnlcnlfmeaa
open Go.RowKit
set_option linter.unusedVariables false
set_option linter.unusedSimpArgs false
set_option maxRecDepth 100000 in
set_option maxHeartbeats 2000000 in
theorem C_spec_DrawEncodeData (w : World) (v : Value) (b : List UInt8) (h : (Ty.sl .byte).rd w [v] b) :
  Calls Try.prog 44 #[v] w (fun e w' => ∃ cs x, e = .returned (.agg cs.toArray) ∧ tData.rd w' cs x ∧ okThing x ∧ Below w.heap.size w w') := by
 obtain ⟨Ac, cc, rfl, _, _, _⟩ := Ty.rd_sl h
 go_enter Try.func44, Try.ntmps44
 go_wp2_with fail
 refine Calls.mono (C_spec_l1New _ _ b (Ty.rd_below b_5 h)) ?_
 rintro e w1 ⟨rfl, hb1, hc1⟩
 (try simp only [World.size_alloc] at hc1 ⊢)
 have z1 := hc1.lt
 have zb1 := hb1.size
 (try simp only [World.size_alloc] at zb1)
 have hO1 : Blk w1 w.heap.size 46 #[.slice none 0 0, .slice none 0 0, .slice none 0 0, .int .i64 0, .int .i64 0] := (Blk.new w _ _).below hb1 b_20
 have D1 : Dr (w.heap.size + 1) w w1 := Dr.of (bel_trans b_5 hb1) _
 clear hb1
 go_wp2_with fail
 refine Calls.mono (C_spec_l8Any _ (w.heap.size + 1) b_9) ?_
 rintro e w2 ⟨hd2, hc2, csx, x, rfl, QX, hok⟩
 have E2 : Dr (w.heap.size + 1) w1 w2 := b_3
 have z2 := E2.size
 have D2 := D1.trans E2
 have hO2 := Dr.blk E2 hO1 b_29
 obtain ⟨X0, Xa, X1, Xb, X2, Xc, rfl, -⟩ := rd_Data QX.rd
 clear hd2 E2 D1 hc1 hO1
 obtain ⟨p0, p1, p2, p3, p4, g0, g1, g2, g3, g4⟩ := blk5 hO2
 have zp := hO2.lt
 go_wp2_with fail
 obtain ⟨wO, hwwO⟩ : ∃ W, W = (((((w2.setCell ⟨w.heap.size, 0, none⟩ (.slice X0 (List.length x.1) Xa)).setCell ⟨w.heap.size, 1, none⟩ (.slice X1 (List.length x.2.1) Xb)).setCell ⟨w.heap.size, 2, none⟩ (.slice X2 (List.length x.2.2.1) Xc)).setCell ⟨w.heap.size, 3, none⟩ (.int .i64 x.2.2.2.1)).setCell ⟨w.heap.size, 4, none⟩ (.int .i64 x.2.2.2.2)) := ⟨_, rfl⟩
 obtain ⟨hO, hK, hs, F⟩ := stored5n (v0 := .slice X0 (List.length x.1) Xa) (v1 := .slice X1 (List.length x.2.1) Xb) (v2 := .slice X2 (List.length x.2.2.1) Xc) (v3 := .int .i64 x.2.2.2.1) (v4 := .int .i64 x.2.2.2.2) hO2 (.inl hwwO)
 rw [← hwwO]
 clear hwwO p0 p1 p2 p3 p4 g0 g1 g2 g3 g4
 have DO := F w (w.heap.size + 1) (Nat.le_refl _) D2
 have QO := QX.keep hs (fun q h1 h2 => hK q b_29)
 obtain ⟨p0, p1, p2, p3, p4, -⟩ := blk5 hO
 refine bodyPost_ret (v := .agg #[.slice X0 (List.length x.1) Xa, .slice X1 (List.length x.2.1) Xb, .slice X2 (List.length x.2.2.1) Xc, .int .i64 x.2.2.2.1, .int .i64 x.2.2.2.2]) (by simp [results, Try.results44, go_sem, p0, p1, p2, p3, p4]) rfl ?_
 exact ⟨_, x, rfl, QO.rd, hok, Dr.below DO b_29 (Nat.le_refl _)⟩
set_option maxRecDepth 100000 in
set_option maxHeartbeats 2000000 in
theorem C_spec_DrawDecodeData (w : World) (v : Value) (b : List UInt8) (h : (Ty.sl .byte).rd w [v] b) :
  Calls Try.prog 46 #[v] w (fun e w' => ∃ A l c, e = .returned (.slice A (List.length l) c) ∧ (Ty.sl .byte).rd w' [.slice A (List.length l) c] l ∧ List.length l ≤ 301 ∧ Below w.heap.size w w') := by
 obtain ⟨Ac, cc, rfl, _, _, _⟩ := Ty.rd_sl h
 go_enter Try.func46, Try.ntmps46
 go_wp2_with fail
 refine Calls.mono (C_spec_l1New _ _ b (Ty.rd_below b_5 h)) ?_
 rintro e w1 ⟨rfl, hb1, hc1⟩
 (try simp only [World.size_alloc] at hc1 ⊢)
 have z1 := hc1.lt
 have zb1 := hb1.size
 (try simp only [World.size_alloc] at zb1)
 have D1 : Dr (w.heap.size) w w1 := Dr.of (bel_trans b_5 hb1) _
 clear hb1
 go_wp2_with fail
 refine Calls.mono (C_spec_l8Draw _ (w.heap.size) b_9) ?_
 rintro e w2 ⟨hd2, hc2, csx, x, rfl, QX, hok⟩
 have E2 : Dr (w.heap.size) w1 w2 := b_3
 have z2 := E2.size
 have D2 := D1.trans E2
 clear hd2 E2 D1 hc1
 go_wp2_with fail
 refine Calls.mono (C_spec_EncodeData _ _ x (Ty.rd_below b_5 QX.rd) (Nat.le_trans (thing_bulk hok) b_28)) ?_
 rintro e w3 ⟨A3, c3, fp3, rfl, how3, hfr3, hb3⟩
 have z3 := hb3.size
 (try simp only [World.size_drew, size_drewN] at z3)
 have E3 : Dr (w.heap.size) w2 w3 := by first | exact Dr.of hb3 _ | exact (Dr.drew (Dr.refl _ _)).trans (Dr.of hb3 _)
 have D3 := D2.trans E3
 have hc3 : CurT w3 (w.heap.size) := by first | exact Cur.below hc2 hb3 | exact Cur.below hc2.drew hb3
 have hl3 := encData_small x
 have rb3 := Ty.ow_rd how3
 generalize f_EncodeData x = y at rb3 hl3 ⊢
 clear how3 hfr3 hb3 D2 hc2 QX
 go_wp2_with fail
 refine Calls.mono (C_spec_l1Bent _ (w.heap.size) _ y b_9 (Ty.rd_below b_5 rb3) b_29) ?_
 rintro e w4 ⟨hd4, hc4, A4, r, c4, rfl, Q4, hl4⟩
 have E4 : Dr (w.heap.size) w3 w4 := b_3
 have D4 := D3.trans E4
 go_wp2
 go_ret
 exact ⟨_, r, _, rfl, Q4.rd, by omega, Dr.below D4 (Nat.le_refl _) (Nat.le_refl _)⟩
set_option maxRecDepth 100000 in
set_option maxHeartbeats 2000000 in
theorem C_spec_DrawSignData (w : World) (v : Value) (b : List UInt8) (h : (Ty.sl .byte).rd w [v] b) :
  Calls Try.prog 49 #[v] w (fun e w' => ∃ k cs x, e = .returned (.tuple #[.int .i64 k, .agg cs.toArray]) ∧ tData.rd w' cs x ∧ okThing x ∧ (-9223372036854775808 ≤ k ∧ k ≤ 9223372036854775807) ∧ Below w.heap.size w w') := by
 obtain ⟨Ac, cc, rfl, _, _, _⟩ := Ty.rd_sl h
 go_enter Try.func49, Try.ntmps49
 go_wp2_with fail
 refine Calls.mono (C_spec_l1New _ _ b (Ty.rd_below b_5 h)) ?_
 rintro e w1 ⟨rfl, hb1, hc1⟩
 (try simp only [World.size_alloc] at hc1 ⊢)
 have z1 := hc1.lt
 have zb1 := hb1.size
 (try simp only [World.size_alloc] at zb1)
 have hO1 : Blk w1 w.heap.size 46 #[.slice none 0 0, .slice none 0 0, .slice none 0 0, .int .i64 0, .int .i64 0] := (Blk.new w _ _).below hb1 b_20
 have D1 : Dr (w.heap.size + 1) w w1 := Dr.of (bel_trans b_5 hb1) _
 clear hb1
 go_wp2_with fail
 refine Calls.mono (C_spec_l3Word _ (w.heap.size + 1) b_9) ?_
 rintro e w2 ⟨hd2, hc2, k, rfl, hk0, hk1⟩
 have E2 : Dr (w.heap.size + 1) w1 w2 := b_3
 have z2 := E2.size
 have D2 := D1.trans E2
 have hO2 := Dr.blk E2 hO1 b_29
 clear hd2 E2 D1 hc1 hO1
 go_wp2_with fail
 refine Calls.mono (C_spec_l8Any _ (w.heap.size + 1) b_9) ?_
 rintro e w3 ⟨hd3, hc3, csx, x, rfl, QX, hok⟩
 have E3 : Dr (w.heap.size + 1) w2 w3 := b_3
 have z3 := E3.size
 have D3 := D2.trans E3
 have hO3 := Dr.blk E3 hO2 b_29
 obtain ⟨X0, Xa, X1, Xb, X2, Xc, rfl, -⟩ := rd_Data QX.rd
 clear hd3 E3 D2 hc2 hO2
 obtain ⟨p0, p1, p2, p3, p4, g0, g1, g2, g3, g4⟩ := blk5 hO3
 have zp := hO3.lt
 go_wp2_with fail
 obtain ⟨wO, hwwO⟩ : ∃ W, W = (((((w3.setCell ⟨w.heap.size, 0, none⟩ (.slice X0 (List.length x.1) Xa)).setCell ⟨w.heap.size, 1, none⟩ (.slice X1 (List.length x.2.1) Xb)).setCell ⟨w.heap.size, 2, none⟩ (.slice X2 (List.length x.2.2.1) Xc)).setCell ⟨w.heap.size, 3, none⟩ (.int .i64 x.2.2.2.1)).setCell ⟨w.heap.size, 4, none⟩ (.int .i64 x.2.2.2.2)) := ⟨_, rfl⟩
 obtain ⟨hO, hK, hs, F⟩ := stored5n (v0 := .slice X0 (List.length x.1) Xa) (v1 := .slice X1 (List.length x.2.1) Xb) (v2 := .slice X2 (List.length x.2.2.1) Xc) (v3 := .int .i64 x.2.2.2.1) (v4 := .int .i64 x.2.2.2.2) hO3 (.inl hwwO)
 rw [← hwwO]
 clear hwwO p0 p1 p2 p3 p4 g0 g1 g2 g3 g4
 have DO := F w (w.heap.size + 1) (Nat.le_refl _) D3
 have QO := QX.keep hs (fun q h1 h2 => hK q b_29)
 obtain ⟨p0, p1, p2, p3, p4, -⟩ := blk5 hO
 refine bodyPost_ret (v := .tuple #[.int .i64 k, .agg #[.slice X0 (List.length x.1) Xa, .slice X1 (List.length x.2.1) Xb, .slice X2 (List.length x.2.2.1) Xc, .int .i64 x.2.2.2.1, .int .i64 x.2.2.2.2]]) (by simp [results, Try.results49, go_sem, p0, p1, p2, p3, p4]) rfl ?_
 exact ⟨_, _, x, rfl, QO.rd, hok, by omega, Dr.below DO b_29 (Nat.le_refl _)⟩
set_option maxRecDepth 100000 in
set_option maxHeartbeats 2000000 in
theorem C_spec_DrawFreshAt (w : World) (v : Value) (b : List UInt8) (h : (Ty.sl .byte).rd w [v] b) :
  Calls Try.prog 52 #[v] w (fun e w' => ∃ cs x now, e = .returned (.tuple #[.agg cs.toArray, .int .i64 now]) ∧ tData.rd w' cs x ∧ okThing x ∧ (-9223372036854775808 ≤ now ∧ now ≤ 9223372036854775807) ∧ Below w.heap.size w w') := by
 obtain ⟨Ac, cc, rfl, _, _, _⟩ := Ty.rd_sl h
 go_enter Try.func52, Try.ntmps52
 go_wp2_with fail
 refine Calls.mono (C_spec_l1New _ _ b (Ty.rd_below b_5 h)) ?_
 rintro e w1 ⟨rfl, hb1, hc1⟩
 (try simp only [World.size_alloc] at hc1 ⊢)
 have z1 := hc1.lt
 have zb1 := hb1.size
 (try simp only [World.size_alloc] at zb1)
 have hO1 : Blk w1 w.heap.size 46 #[.slice none 0 0, .slice none 0 0, .slice none 0 0, .int .i64 0, .int .i64 0] := (Blk.new w _ _).below hb1 b_20
 have D1 : Dr (w.heap.size + 1) w w1 := Dr.of (bel_trans b_5 hb1) _
 clear hb1
 go_wp2_with fail
 refine Calls.mono (C_spec_l8Any _ (w.heap.size + 1) b_9) ?_
 rintro e w2 ⟨hd2, hc2, csx, x, rfl, QX, hok⟩
 have E2 : Dr (w.heap.size + 1) w1 w2 := b_3
 have z2 := E2.size
 have D2 := D1.trans E2
 have hO2 := Dr.blk E2 hO1 b_29
 obtain ⟨X0, Xa, X1, Xb, X2, Xc, rfl, -⟩ := rd_Data QX.rd
 have HOK := Lib.hid hok
 clear hok
 clear hd2 E2 D1 hc1 hO1
 go_wp2_with fail
 obtain ⟨w3, hw3⟩ : ∃ w3, w3 = w2.alloc (.cells #[.slice X0 (List.length x.1) Xa, .slice X1 (List.length x.2.1) Xb, .slice X2 (List.length x.2.2.1) Xc, .int .i64 x.2.2.2.1, .int .i64 x.2.2.2.2] 46) := ⟨_, rfl⟩
 have E3 : Dr (w.heap.size + 1) w2 w3 := by rw [hw3]; exact new_dr _ _ _
 have hc3 : CurT w3 (w.heap.size + 1) := by rw [hw3]; exact hc2.alloc _
 have hX3 : Blk w3 w2.heap.size 46 #[.slice X0 (List.length x.1) Xa, .slice X1 (List.length x.2.1) Xb, .slice X2 (List.length x.2.2.1) Xc, .int .i64 x.2.2.2.1, .int .i64 x.2.2.2.2] := by rw [hw3]; exact Blk.new _ _ _
 have hO3 := Dr.blk E3 hO2 b_29
 have QX3 := QX.dr E3 b_29
 have D3 := D2.trans E3
 have zX3 := hX3.lt
 rw [← hw3]
 clear hw3 E3 D2 hc2 QX hO2
 obtain ⟨x0, x1, x2, x3, x4, -⟩ := blk5 hX3
 replace D3 := Lib.hid D3
 have HCC : Hid (∀ V, Dr (w.heap.size + 1) w3 V → V.cell? ⟨w2.heap.size, 0, none⟩ = some (.slice X0 (List.length x.1) Xa) ∧ V.cell? ⟨w2.heap.size, 1, none⟩ = some (.slice X1 (List.length x.2.1) Xb) ∧ V.cell? ⟨w2.heap.size, 2, none⟩ = some (.slice X2 (List.length x.2.2.1) Xc) ∧ V.cell? ⟨w2.heap.size, 3, none⟩ = some (.int .i64 x.2.2.2.1) ∧ V.cell? ⟨w2.heap.size, 4, none⟩ = some (.int .i64 x.2.2.2.2)) := fun V hV => by
  obtain ⟨a0, a1, a2, a3, a4, -⟩ := blk5 (Dr.blk hV hX3 b_29)
  exact ⟨a0, a1, a2, a3, a4⟩
 clear x0 x1 x2 x3 x4
 refine wp_region_noPanic ?_
 refine wp_region_held_drew (S := (fun V => V.cell? ⟨w2.heap.size, 0, none⟩ = some (.slice X0 (List.length x.1) Xa) ∧ V.cell? ⟨w2.heap.size, 1, none⟩ = some (.slice X1 (List.length x.2.1) Xb) ∧ V.cell? ⟨w2.heap.size, 2, none⟩ = some (.slice X2 (List.length x.2.2.1) Xc) ∧ V.cell? ⟨w2.heap.size, 3, none⟩ = some (.int .i64 x.2.2.2.1) ∧ V.cell? ⟨w2.heap.size, 4, none⟩ = some (.int .i64 x.2.2.2.2))) b_27 ?_ (fun hHeld => ?_)
 ·exact HCC.out _ (Dr.drew (Dr.refl _ _))
 refine tkz2 0 1 ?_
 try simp only [layz]
 refine rz1 2 (fun K hK => ?_)
 go_simp
 go_at_call 69
 refine Calls.mono (C_spec_l1Below _ (w.heap.size + 1) 80 (cuz hc3) b_28 b_28) ?_
 rintro e w4 ⟨hd4, hc4, k, rfl, hk0, hk1⟩
 obtain ⟨E4, z4⟩ := ez w3 hd4
 have hwk : IntKind.i64.wrap (40 + k) = 40 + k := IntWalk.i64_in _ b_29
 clear hd4
 refine hK.out _ _ (HCC.out _ (drz E4)) (fun hHeld => ?_)
 clear hK K
 try simp only [layz]
 refine tkz 3 ?_
 try simp only [layz]
 refine rz1 4 (fun K hK => ?_)
 have F4 : Dr (w.heap.size + 1) w3 w4 := (drz E4)
 have hO4 := Dr.blk F4 hO3 b_29
 have hX4 := Dr.blk F4 hX3 b_29
 have QX4 := QX3.dr F4 b_29
 have D4 := D3.out.trans F4
 obtain ⟨p0, p1, p2, p3, p4, g0, g1, g2, g3, g4⟩ := blk5 hO4
 have zp := hO4.lt
 go_simp
 refine abs_world (fun wO hw => ?_)
 obtain ⟨hOO, hK, hs, F⟩ := stored5n (v0 := .slice X0 (List.length x.1) Xa) (v1 := .slice X1 (List.length x.2.1) Xb) (v2 := .slice X2 (List.length x.2.2.1) Xc) (v3 := .int .i64 x.2.2.2.1) (v4 := .int .i64 x.2.2.2.2) hO4 (by first | exact .inl hw | exact .inr hw)
 have DO := Lib.hid (F w (w.heap.size + 1) (Nat.le_refl _) D4)
 have QXO := QX4.keep hs (fun q h1 h2 => hK q b_29)
 have hXO : Blk wO w2.heap.size 46 #[.slice X0 (List.length x.1) Xa, .slice X1 (List.length x.2.1) Xb, .slice X2 (List.length x.2.2.1) Xc, .int .i64 x.2.2.2.1, .int .i64 x.2.2.2.2] := (hK _ b_29).trans hX4
 obtain ⟨a0, a1, a2, a3, a4, -⟩ := blk5 hXO
 clear hw hK hs F p0 p1 p2 p3 p4 g0 g1 g2 g3 g4 hO4 hX4 QX4 D4
 refine hK.out _ _ (⟨a0, a1, a2, a3, a4⟩) (fun hHeld => ?_)
 clear hK K
 try simp only [layz]
 refine tkz 5 ?_
 try simp only [layz]
 refine wpAnyH_done b_27 ?_ _
 refine NoPanic.normal ?_
 clear a0 a1 a2 a3 a4
 go_wp2
 obtain ⟨p0, p1, p2, p3, p4, -⟩ := blk5 hOO
 refine bodyPost_ret (v := .tuple #[.agg #[.slice X0 (List.length x.1) Xa, .slice X1 (List.length x.2.1) Xb, .slice X2 (List.length x.2.2.1) Xc, .int .i64 x.2.2.2.1, .int .i64 x.2.2.2.2], .int .i64 (40 + k)]) (by simp [results, Try.results52, go_sem, p0, p1, p2, p3, p4]) rfl ?_
 exact ⟨_, x, _, rfl, QXO.rd, HOK.out, by omega, Dr.below DO.out b_29 (Nat.le_refl _)⟩
set_option maxRecDepth 100000 in
set_option maxHeartbeats 2000000 in
theorem C_spec_DrawEqualData (w : World) (v : Value) (b : List UInt8) (h : (Ty.sl .byte).rd w [v] b) :
  Calls Try.prog 51 #[v] w (fun e w' => ∃ cs x ct y, e = .returned (.tuple #[.agg cs.toArray, .agg ct.toArray]) ∧ tData.rd w' cs x ∧ okThing x ∧ tData.rd w' ct y ∧ okThing y ∧ Below w.heap.size w w') := by
 obtain ⟨Ac, cc, rfl, _, _, _⟩ := Ty.rd_sl h
 go_enter Try.func51, Try.ntmps51
 go_wp2_with fail
 refine Calls.mono (C_spec_l1New _ _ b (Ty.rd_below b_5 h)) ?_
 rintro e w1 ⟨rfl, hb1, hc1⟩
 (try simp only [World.size_alloc] at hc1 ⊢)
 have z1 := hc1.lt
 have zb1 := hb1.size
 (try simp only [World.size_alloc] at zb1)
 have hO1 : Blk w1 w.heap.size 46 #[.slice none 0 0, .slice none 0 0, .slice none 0 0, .int .i64 0, .int .i64 0] := ((Blk.new w _ _).alloc _).below hb1 b_20
 have hP1 : Blk w1 (w.heap.size + 1) 46 #[.slice none 0 0, .slice none 0 0, .slice none 0 0, .int .i64 0, .int .i64 0] := (by have := Blk.new (w.alloc (.cells #[.slice none 0 0, .slice none 0 0, .slice none 0 0, .int .i64 0, .int .i64 0] 46)) 46 #[.slice none 0 0, .slice none 0 0, .slice none 0 0, .int .i64 0, .int .i64 0]; rw [World.size_alloc] at this; exact this.below hb1 b_20)
 have D1 : Dr (w.heap.size + 1 + 1) w w1 := Dr.of (bel_trans b_5 hb1) _
 clear hb1
 go_wp2_with fail
 refine Calls.mono (C_spec_l8Any _ (w.heap.size + 1 + 1) b_9) ?_
 rintro e w2 ⟨hd2, hc2, csx, x, rfl, QX, hok⟩
 have E2 : Dr (w.heap.size + 1 + 1) w1 w2 := b_3
 have z2 := E2.size
 have D2 := D1.trans E2
 have hO2 := Dr.blk E2 hO1 b_29
 have hP2 := Dr.blk E2 hP1 b_29
 obtain ⟨X0, Xa, X1, Xb, X2, Xc, rfl, -⟩ := rd_Data QX.rd
 have HOK := Lib.hid hok
 clear hok
 clear hd2 E2 D1 hc1 hO1 hP1
 go_wp2_with fail
 obtain ⟨w3, hw3⟩ : ∃ w3, w3 = w2.alloc (.cells #[.slice X0 (List.length x.1) Xa, .slice X1 (List.length x.2.1) Xb, .slice X2 (List.length x.2.2.1) Xc, .int .i64 x.2.2.2.1, .int .i64 x.2.2.2.2] 46) := ⟨_, rfl⟩
 have E3 : Dr (w.heap.size + 1 + 1) w2 w3 := by rw [hw3]; exact new_dr _ _ _
 have hc3 : CurT w3 (w.heap.size + 1 + 1) := by rw [hw3]; exact hc2.alloc _
 have hX3 : Blk w3 w2.heap.size 46 #[.slice X0 (List.length x.1) Xa, .slice X1 (List.length x.2.1) Xb, .slice X2 (List.length x.2.2.1) Xc, .int .i64 x.2.2.2.1, .int .i64 x.2.2.2.2] := by rw [hw3]; exact Blk.new _ _ _
 have hO3 := Dr.blk E3 hO2 b_29
 have hP3 := Dr.blk E3 hP2 b_29
 have QX3 := QX.dr E3 b_29
 have D3 := D2.trans E3
 have zX3 := hX3.lt
 rw [← hw3]
 clear hw3 E3 D2 hc2 QX hO2 hP2
 obtain ⟨x0, x1, x2, x3, x4, -⟩ := blk5 hX3
 refine Calls.mono (C_spec_l1Once _ (w.heap.size + 1 + 1) 2 b_9 b_28 b_28) ?_
 rintro e w4 ⟨hd4, hc4, bo, rfl⟩
 have E4 : Dr (w.heap.size + 1 + 1) w3 w4 := b_3
 have z4 := E4.size
 have D4 := Lib.hid (D3.trans E4)
 have hO4 := Dr.blk E4 hO3 b_29
 have hP4 := Dr.blk E4 hP3 b_29
 have hX4 := Dr.blk E4 hX3 b_29
 have QX4 := QX3.dr E4 b_29
 clear hd4 E4 D3 hc3 hO3 hP3 hX3 QX3 x0 x1 x2 x3 x4
 have HCC : Hid (∀ V, Dr (w.heap.size + 1 + 1) w4 V → V.cell? ⟨w2.heap.size, 0, none⟩ = some (.slice X0 (List.length x.1) Xa) ∧ V.cell? ⟨w2.heap.size, 1, none⟩ = some (.slice X1 (List.length x.2.1) Xb) ∧ V.cell? ⟨w2.heap.size, 2, none⟩ = some (.slice X2 (List.length x.2.2.1) Xc) ∧ V.cell? ⟨w2.heap.size, 3, none⟩ = some (.int .i64 x.2.2.2.1) ∧ V.cell? ⟨w2.heap.size, 4, none⟩ = some (.int .i64 x.2.2.2.2)) := fun V hV => by
  obtain ⟨a0, a1, a2, a3, a4, -⟩ := blk5 (Dr.blk hV hX4 b_29)
  exact ⟨a0, a1, a2, a3, a4⟩
 cases bo with
 | true =>
  go_wp2_with fail
  refine wp_region_noPanic ?_
  refine wp_region_held_drew (S := (fun V => V.cell? ⟨w2.heap.size, 0, none⟩ = some (.slice X0 (List.length x.1) Xa) ∧ V.cell? ⟨w2.heap.size, 1, none⟩ = some (.slice X1 (List.length x.2.1) Xb) ∧ V.cell? ⟨w2.heap.size, 2, none⟩ = some (.slice X2 (List.length x.2.2.1) Xc) ∧ V.cell? ⟨w2.heap.size, 3, none⟩ = some (.int .i64 x.2.2.2.1) ∧ V.cell? ⟨w2.heap.size, 4, none⟩ = some (.int .i64 x.2.2.2.2))) b_27 ?_ (fun hHeld => ?_)
  ·exact HCC.out _ (Dr.drew (Dr.refl _ _))
  refine tkz2 0 1 ?_
  try simp only [layz]
  refine rz1 2 (fun K hK => ?_)
  go_simp
  go_at_call 100
  refine Calls.mono (C_spec_l8Copy _ _ x (by first | exact QX4.rd | exact QX4.drew.rd) (Nat.le_trans (thing_bulk HOK.out) b_28)) ?_
  rintro e w5 ⟨csy, fpy, rfl, howy, hfry, hb5⟩
  obtain ⟨E5, z5⟩ := ez w4 (Dr.of hb5 (w.heap.size + 1 + 1))
  have hc5 : CurT w5 (w.heap.size + 1 + 1) := Cur.below (cuz hc4) hb5
  have QY := RdI.of_owF howy hfry (Nat.le_refl _)
  (try simp only [szz] at QY)
  obtain ⟨Y0, Ya, Y1, Yb, Y2, Yc, rfl, -⟩ := rd_Data QY.rd
  clear howy hfry
  clear hb5
  refine hK.out _ _ (HCC.out _ (drz E5)) (fun hHeld => ?_)
  clear hK K
  try simp only [layz]
  refine rz1 3 (fun K hK => ?_)
  have F5 : Dr (w.heap.size + 1 + 1) w4 w5 := (drz E5)
  have hO5 := Dr.blk F5 hO4 b_29
  have hP5 := Dr.blk F5 hP4 b_29
  have hX5 := Dr.blk F5 hX4 b_29
  have QX5 := QX4.dr F5 b_29
  have D5 := D4.out.trans F5
  obtain ⟨p0, p1, p2, p3, p4, g0, g1, g2, g3, g4⟩ := blk5 hO5
  have zp := hO5.lt
  go_simp
  refine abs_world (fun wO hw => ?_)
  obtain ⟨hOO, hK, hs, F⟩ := stored5n (v0 := .slice X0 (List.length x.1) Xa) (v1 := .slice X1 (List.length x.2.1) Xb) (v2 := .slice X2 (List.length x.2.2.1) Xc) (v3 := .int .i64 x.2.2.2.1) (v4 := .int .i64 x.2.2.2.2) hO5 (by first | exact .inl hw | exact .inr hw)
  have DO := Lib.hid (F w (w.heap.size + 1 + 1) b_29 D5)
  have QXO := QX5.keep hs (fun q h1 h2 => hK q b_29)
  have QYO := QY.keep hs (fun q h1 h2 => hK q b_29)
  have hXO : Blk wO w2.heap.size 46 #[.slice X0 (List.length x.1) Xa, .slice X1 (List.length x.2.1) Xb, .slice X2 (List.length x.2.2.1) Xc, .int .i64 x.2.2.2.1, .int .i64 x.2.2.2.2] := (hK _ b_29).trans hX5
  have hPO : Blk wO (w.heap.size + 1) 46 #[.slice none 0 0, .slice none 0 0, .slice none 0 0, .int .i64 0, .int .i64 0] := (hK _ b_29).trans hP5
  obtain ⟨a0, a1, a2, a3, a4, -⟩ := blk5 hXO
  clear hw hK hs F p0 p1 p2 p3 p4 g0 g1 g2 g3 g4 hO5 hX5 QX5 D5 hP5 QY
  refine hK.out _ _ (⟨a0, a1, a2, a3, a4⟩) (fun hHeld => ?_)
  clear hK K
  try simp only [layz]
  refine rz1 4 (fun K hK => ?_)
  obtain ⟨p0, p1, p2, p3, p4, g0, g1, g2, g3, g4⟩ := blk5 hPO
  have zp2 := hPO.lt
  go_simp
  refine abs_world (fun wP hw => ?_)
  obtain ⟨hPP, hK, hs, F⟩ := stored5n (v0 := .slice Y0 (List.length x.1) Ya) (v1 := .slice Y1 (List.length x.2.1) Yb) (v2 := .slice Y2 (List.length x.2.2.1) Yc) (v3 := .int .i64 x.2.2.2.1) (v4 := .int .i64 x.2.2.2.2) hPO (by first | exact .inl hw | exact .inr hw)
  have DP := Lib.hid (F w (w.heap.size + 1 + 1) b_29 DO.out)
  have QXP := QXO.keep hs (fun q h1 h2 => hK q b_29)
  have QYP := QYO.keep hs (fun q h1 h2 => hK q b_29)
  have hXP : Blk wP w2.heap.size 46 #[.slice X0 (List.length x.1) Xa, .slice X1 (List.length x.2.1) Xb, .slice X2 (List.length x.2.2.1) Xc, .int .i64 x.2.2.2.1, .int .i64 x.2.2.2.2] := (hK _ b_29).trans hXO
  have hOP : Blk wP w.heap.size 46 #[.slice X0 (List.length x.1) Xa, .slice X1 (List.length x.2.1) Xb, .slice X2 (List.length x.2.2.1) Xc, .int .i64 x.2.2.2.1, .int .i64 x.2.2.2.2] := (hK _ b_29).trans hOO
  clear a0 a1 a2 a3 a4
  obtain ⟨a0, a1, a2, a3, a4, -⟩ := blk5 hXP
  clear hw hK hs F p0 p1 p2 p3 p4 g0 g1 g2 g3 g4
  refine hK.out _ _ (⟨a0, a1, a2, a3, a4⟩) (fun hHeld => ?_)
  clear hK K
  try simp only [layz]
  refine wpAnyH_done b_27 ?_ _
  refine NoPanic.normal ?_
  clear a0 a1 a2 a3 a4
  go_wp2
  obtain ⟨p0, p1, p2, p3, p4, -⟩ := blk5 hOP
  obtain ⟨q0, q1, q2, q3, q4, -⟩ := blk5 hPP
  refine bodyPost_ret (v := .tuple #[.agg #[.slice X0 (List.length x.1) Xa, .slice X1 (List.length x.2.1) Xb, .slice X2 (List.length x.2.2.1) Xc, .int .i64 x.2.2.2.1, .int .i64 x.2.2.2.2], .agg #[.slice Y0 (List.length x.1) Ya, .slice Y1 (List.length x.2.1) Yb, .slice Y2 (List.length x.2.2.1) Yc, .int .i64 x.2.2.2.1, .int .i64 x.2.2.2.2]]) (by simp [results, Try.results51, go_sem, p0, p1, p2, p3, p4, q0, q1, q2, q3, q4]) rfl ?_
  exact ⟨_, x, _, x, rfl, QXP.rd, HOK.out, QYP.rd, HOK.out, Dr.below DP.out b_29 (Nat.le_refl _)⟩
 | false =>
  go_wp2_with fail
  refine wp_region_noPanic ?_
  refine wp_region_held_drew (S := (fun V => V.cell? ⟨w2.heap.size, 0, none⟩ = some (.slice X0 (List.length x.1) Xa) ∧ V.cell? ⟨w2.heap.size, 1, none⟩ = some (.slice X1 (List.length x.2.1) Xb) ∧ V.cell? ⟨w2.heap.size, 2, none⟩ = some (.slice X2 (List.length x.2.2.1) Xc) ∧ V.cell? ⟨w2.heap.size, 3, none⟩ = some (.int .i64 x.2.2.2.1) ∧ V.cell? ⟨w2.heap.size, 4, none⟩ = some (.int .i64 x.2.2.2.2))) b_27 ?_ (fun hHeld => ?_)
  ·exact HCC.out _ (Dr.drew (Dr.refl _ _))
  refine tkz2 0 1 ?_
  try simp only [layz]
  refine rz1 2 (fun K hK => ?_)
  go_simp
  go_at_call 92
  refine Calls.mono (C_spec_l8Any _ (w.heap.size + 1 + 1) (cuz hc4)) ?_
  rintro e w5 ⟨hd5, hc5, csy, y, rfl, QY, hoky⟩
  obtain ⟨E5, z5⟩ := ez w4 hd5
  (try simp only [szz] at QY)
  obtain ⟨Y0, Ya, Y1, Yb, Y2, Yc, rfl, -⟩ := rd_Data QY.rd
  have HOKY := Lib.hid hoky
  clear hoky
  clear hd5
  refine hK.out _ _ (HCC.out _ (drz E5)) (fun hHeld => ?_)
  clear hK K
  try simp only [layz]
  refine rz1 3 (fun K hK => ?_)
  have F5 : Dr (w.heap.size + 1 + 1) w4 w5 := (drz E5)
  have hO5 := Dr.blk F5 hO4 b_29
  have hP5 := Dr.blk F5 hP4 b_29
  have hX5 := Dr.blk F5 hX4 b_29
  have QX5 := QX4.dr F5 b_29
  have D5 := D4.out.trans F5
  obtain ⟨p0, p1, p2, p3, p4, g0, g1, g2, g3, g4⟩ := blk5 hO5
  have zp := hO5.lt
  go_simp
  refine abs_world (fun wO hw => ?_)
  obtain ⟨hOO, hK, hs, F⟩ := stored5n (v0 := .slice X0 (List.length x.1) Xa) (v1 := .slice X1 (List.length x.2.1) Xb) (v2 := .slice X2 (List.length x.2.2.1) Xc) (v3 := .int .i64 x.2.2.2.1) (v4 := .int .i64 x.2.2.2.2) hO5 (by first | exact .inl hw | exact .inr hw)
  have DO := Lib.hid (F w (w.heap.size + 1 + 1) b_29 D5)
  have QXO := QX5.keep hs (fun q h1 h2 => hK q b_29)
  have QYO := QY.keep hs (fun q h1 h2 => hK q b_29)
  have hXO : Blk wO w2.heap.size 46 #[.slice X0 (List.length x.1) Xa, .slice X1 (List.length x.2.1) Xb, .slice X2 (List.length x.2.2.1) Xc, .int .i64 x.2.2.2.1, .int .i64 x.2.2.2.2] := (hK _ b_29).trans hX5
  have hPO : Blk wO (w.heap.size + 1) 46 #[.slice none 0 0, .slice none 0 0, .slice none 0 0, .int .i64 0, .int .i64 0] := (hK _ b_29).trans hP5
  obtain ⟨a0, a1, a2, a3, a4, -⟩ := blk5 hXO
  clear hw hK hs F p0 p1 p2 p3 p4 g0 g1 g2 g3 g4 hO5 hX5 QX5 D5 hP5 QY
  refine hK.out _ _ (⟨a0, a1, a2, a3, a4⟩) (fun hHeld => ?_)
  clear hK K
  try simp only [layz]
  refine rz1 4 (fun K hK => ?_)
  obtain ⟨p0, p1, p2, p3, p4, g0, g1, g2, g3, g4⟩ := blk5 hPO
  have zp2 := hPO.lt
  go_simp
  refine abs_world (fun wP hw => ?_)
  obtain ⟨hPP, hK, hs, F⟩ := stored5n (v0 := .slice Y0 (List.length y.1) Ya) (v1 := .slice Y1 (List.length y.2.1) Yb) (v2 := .slice Y2 (List.length y.2.2.1) Yc) (v3 := .int .i64 y.2.2.2.1) (v4 := .int .i64 y.2.2.2.2) hPO (by first | exact .inl hw | exact .inr hw)
  have DP := Lib.hid (F w (w.heap.size + 1 + 1) b_29 DO.out)
  have QXP := QXO.keep hs (fun q h1 h2 => hK q b_29)
  have QYP := QYO.keep hs (fun q h1 h2 => hK q b_29)
  have hXP : Blk wP w2.heap.size 46 #[.slice X0 (List.length x.1) Xa, .slice X1 (List.length x.2.1) Xb, .slice X2 (List.length x.2.2.1) Xc, .int .i64 x.2.2.2.1, .int .i64 x.2.2.2.2] := (hK _ b_29).trans hXO
  have hOP : Blk wP w.heap.size 46 #[.slice X0 (List.length x.1) Xa, .slice X1 (List.length x.2.1) Xb, .slice X2 (List.length x.2.2.1) Xc, .int .i64 x.2.2.2.1, .int .i64 x.2.2.2.2] := (hK _ b_29).trans hOO
  clear a0 a1 a2 a3 a4
  obtain ⟨a0, a1, a2, a3, a4, -⟩ := blk5 hXP
  clear hw hK hs F p0 p1 p2 p3 p4 g0 g1 g2 g3 g4
  refine hK.out _ _ (⟨a0, a1, a2, a3, a4⟩) (fun hHeld => ?_)
  clear hK K
  try simp only [layz]
  refine wpAnyH_done b_27 ?_ _
  refine NoPanic.normal ?_
  clear a0 a1 a2 a3 a4
  go_wp2
  obtain ⟨p0, p1, p2, p3, p4, -⟩ := blk5 hOP
  obtain ⟨q0, q1, q2, q3, q4, -⟩ := blk5 hPP
  refine bodyPost_ret (v := .tuple #[.agg #[.slice X0 (List.length x.1) Xa, .slice X1 (List.length x.2.1) Xb, .slice X2 (List.length x.2.2.1) Xc, .int .i64 x.2.2.2.1, .int .i64 x.2.2.2.2], .agg #[.slice Y0 (List.length y.1) Ya, .slice Y1 (List.length y.2.1) Yb, .slice Y2 (List.length y.2.2.1) Yc, .int .i64 y.2.2.2.1, .int .i64 y.2.2.2.2]]) (by simp [results, Try.results51, go_sem, p0, p1, p2, p3, p4, q0, q1, q2, q3, q4]) rfl ?_
  exact ⟨_, x, _, y, rfl, QXP.rd, HOK.out, QYP.rd, HOKY.out, Dr.below DP.out b_29 (Nat.le_refl _)⟩
set_option maxRecDepth 100000 in
set_option maxHeartbeats 2000000 in
theorem C_spec_DrawVerifyData (w : World) (v : Value) (b : List UInt8) (h : (Ty.sl .byte).rd w [v] b) :
  Calls Try.prog 50 #[v] w (fun e w' => ∃ k cs x, e = .returned (.tuple #[.int .i64 k, .agg cs.toArray]) ∧ tData.rd w' cs x ∧ okThing x ∧ (-9223372036854775808 ≤ k ∧ k ≤ 9223372036854775807) ∧ Below w.heap.size w w') := by
 obtain ⟨Ac, cc, rfl, _, _, _⟩ := Ty.rd_sl h
 go_enter Try.func50, Try.ntmps50
 go_wp2_with fail
 refine Calls.mono (C_spec_l1New _ _ b (Ty.rd_below b_5 h)) ?_
 rintro e w1 ⟨rfl, hb1, hc1⟩
 (try simp only [World.size_alloc] at hc1 ⊢)
 have z1 := hc1.lt
 have zb1 := hb1.size
 (try simp only [World.size_alloc] at zb1)
 have hO1 : Blk w1 w.heap.size 46 #[.slice none 0 0, .slice none 0 0, .slice none 0 0, .int .i64 0, .int .i64 0] := (Blk.new w _ _).below hb1 b_20
 have D1 : Dr (w.heap.size + 1) w w1 := Dr.of (bel_trans b_5 hb1) _
 clear hb1
 go_wp2_with fail
 refine Calls.mono (C_spec_l8Any _ (w.heap.size + 1) b_9) ?_
 rintro e w2 ⟨hd2, hc2, csx, x, rfl, QX, hok⟩
 have E2 : Dr (w.heap.size + 1) w1 w2 := b_3
 have z2 := E2.size
 have D2 := D1.trans E2
 have hO2 := Dr.blk E2 hO1 b_29
 obtain ⟨X0, Xa, X1, Xb, X2, Xc, rfl, -⟩ := rd_Data QX.rd
 have HOK := Lib.hid hok
 clear hok
 clear hd2 E2 D1 hc1 hO1
 go_wp2_with fail
 obtain ⟨w3, hw3⟩ : ∃ w3, w3 = w2.alloc (.cells #[.slice X0 (List.length x.1) Xa, .slice X1 (List.length x.2.1) Xb, .slice X2 (List.length x.2.2.1) Xc, .int .i64 x.2.2.2.1, .int .i64 x.2.2.2.2] 46) := ⟨_, rfl⟩
 have E3 : Dr (w.heap.size + 1) w2 w3 := by rw [hw3]; exact new_dr _ _ _
 have hc3 : CurT w3 (w.heap.size + 1) := by rw [hw3]; exact hc2.alloc _
 have hX3 : Blk w3 w2.heap.size 46 #[.slice X0 (List.length x.1) Xa, .slice X1 (List.length x.2.1) Xb, .slice X2 (List.length x.2.2.1) Xc, .int .i64 x.2.2.2.1, .int .i64 x.2.2.2.2] := by rw [hw3]; exact Blk.new _ _ _
 have hO3 := Dr.blk E3 hO2 b_29
 have QX3 := QX.dr E3 b_29
 have D3 := D2.trans E3
 have zX3 := hX3.lt
 rw [← hw3]
 clear hw3 E3 D2 hc2 QX hO2
 obtain ⟨x0, x1, x2, x3, x4, -⟩ := blk5 hX3
 refine Calls.mono (C_spec_l8Secret _ (w.heap.size + 1) b_9) ?_
 rintro e w4 ⟨hd4, hc4, k, rfl, hk0, hk1⟩
 have E4 : Dr (w.heap.size + 1) w3 w4 := b_3
 have z4 := E4.size
 have D4 := D3.trans E4
 have hO4 := Dr.blk E4 hO3 b_29
 have hX4 := Dr.blk E4 hX3 b_29
 have QX4 := QX3.dr E4 b_29
 clear hd4 E4 D3 hc3 hO3 hX3 QX3 x0 x1 x2 x3 x4
 go_wp2_with fail
 refine Calls.mono (C_spec_l1Once _ (w.heap.size + 1) 2 b_9 b_28 b_28) ?_
 rintro e w5 ⟨hd5, hc5, bo, rfl⟩
 have E5 : Dr (w.heap.size + 1) w4 w5 := b_3
 have z5 := E5.size
 have D5 := D4.trans E5
 have hO5 := Dr.blk E5 hO4 b_29
 have hX5 := Dr.blk E5 hX4 b_29
 have QX5 := QX4.dr E5 b_29
 have ik : -9223372036854775808 ≤ k ∧ k ≤ 9223372036854775807 := by omega
 clear hd5 E5 D4 hc4 hO4 hX4 QX4
 cases bo with
 | true =>
  obtain ⟨x0, x1, x2, x3, x4, -⟩ := blk5 hX5
  have zX5 := hX5.lt
  go_wp2_with fail
  refine Calls.mono (C_spec_SignData _ k _ x (by first | exact QX5.rd | exact QX5.drew.rd) ik (Nat.le_trans (thing_bulk HOK.out) b_28)) ?_
  rintro e w6 ⟨csy, fpy, rfl, howy, hfry, hb6⟩
  obtain ⟨E6, z6⟩ := ez w5 (Dr.of hb6 (w.heap.size + 1))
  have D6 := D5.trans E6
  have hO6 := Dr.blk E6 hO5 b_29
  have QY := RdI.of_owF howy hfry (Nat.le_refl _)
  (try simp only [szz] at QY)
  have hoky : okThing (f_SignData k x) := HOK.out
  have HOKY := Lib.hid hoky
  generalize f_SignData k x = y at QY HOKY ⊢
  obtain ⟨Y0, Ya, Y1, Yb, Y2, Yc, rfl, -⟩ := rd_Data QY.rd
  clear howy hfry hb6 hoky x0 x1 x2 x3 x4 hX5 QX5 D5 E6 hO5
  obtain ⟨p0, p1, p2, p3, p4, g0, g1, g2, g3, g4⟩ := blk5 hO6
  have zp := hO6.lt
  go_wp2_with fail
  obtain ⟨wO, hwwO⟩ : ∃ W, W = (((((w6.setCell ⟨w.heap.size, 0, none⟩ (.slice Y0 (List.length y.1) Ya)).setCell ⟨w.heap.size, 1, none⟩ (.slice Y1 (List.length y.2.1) Yb)).setCell ⟨w.heap.size, 2, none⟩ (.slice Y2 (List.length y.2.2.1) Yc)).setCell ⟨w.heap.size, 3, none⟩ (.int .i64 y.2.2.2.1)).setCell ⟨w.heap.size, 4, none⟩ (.int .i64 y.2.2.2.2)) := ⟨_, rfl⟩
  obtain ⟨hO, hK, hs, F⟩ := stored5n (v0 := .slice Y0 (List.length y.1) Ya) (v1 := .slice Y1 (List.length y.2.1) Yb) (v2 := .slice Y2 (List.length y.2.2.1) Yc) (v3 := .int .i64 y.2.2.2.1) (v4 := .int .i64 y.2.2.2.2) hO6 (.inl hwwO)
  rw [← hwwO]
  clear hwwO p0 p1 p2 p3 p4 g0 g1 g2 g3 g4
  have DO := F w (w.heap.size + 1) (Nat.le_refl _) D6
  have QO := QY.keep hs (fun q h1 h2 => hK q b_29)
  obtain ⟨p0, p1, p2, p3, p4, -⟩ := blk5 hO
  refine bodyPost_ret (v := .tuple #[.int .i64 k, .agg #[.slice Y0 (List.length y.1) Ya, .slice Y1 (List.length y.2.1) Yb, .slice Y2 (List.length y.2.2.1) Yc, .int .i64 y.2.2.2.1, .int .i64 y.2.2.2.2]]) (by simp [results, Try.results50, go_sem, p0, p1, p2, p3, p4]) rfl ?_
  exact ⟨_, _, y, rfl, QO.rd, HOKY.out, ik, Dr.below DO b_29 (Nat.le_refl _)⟩
 | false =>
  replace D5 := Lib.hid D5
  have HCC : Hid (∀ V, Dr (w.heap.size + 1) w5 V → V.cell? ⟨w2.heap.size, 0, none⟩ = some (.slice X0 (List.length x.1) Xa) ∧ V.cell? ⟨w2.heap.size, 1, none⟩ = some (.slice X1 (List.length x.2.1) Xb) ∧ V.cell? ⟨w2.heap.size, 2, none⟩ = some (.slice X2 (List.length x.2.2.1) Xc) ∧ V.cell? ⟨w2.heap.size, 3, none⟩ = some (.int .i64 x.2.2.2.1) ∧ V.cell? ⟨w2.heap.size, 4, none⟩ = some (.int .i64 x.2.2.2.2)) := fun V hV => by
   obtain ⟨a0, a1, a2, a3, a4, -⟩ := blk5 (Dr.blk hV hX5 b_29)
   exact ⟨a0, a1, a2, a3, a4⟩
  go_wp2_with fail
  refine wp_region_noPanic ?_
  refine wp_region_held_drew (S := (fun V => V.cell? ⟨w2.heap.size, 0, none⟩ = some (.slice X0 (List.length x.1) Xa) ∧ V.cell? ⟨w2.heap.size, 1, none⟩ = some (.slice X1 (List.length x.2.1) Xb) ∧ V.cell? ⟨w2.heap.size, 2, none⟩ = some (.slice X2 (List.length x.2.2.1) Xc) ∧ V.cell? ⟨w2.heap.size, 3, none⟩ = some (.int .i64 x.2.2.2.1) ∧ V.cell? ⟨w2.heap.size, 4, none⟩ = some (.int .i64 x.2.2.2.2))) b_27 ?_ (fun hHeld => ?_)
  ·exact HCC.out _ (Dr.drew (Dr.refl _ _))
  refine tkz3 0 1 4 ?_
  try simp only [layz]
  refine rz1 2 (fun K hK => ?_)
  go_simp
  refine abs_world (fun w6 hw6 => ?_)
  obtain ⟨E6, hc6, z6⟩ := nz hw6 hc5
  have HL6 := Lib.hid (show RdI (.sl .int) w5.heap.size (w5.heap.size + 1) w6 [.slice (some ⟨w5.heap.size, 0, none⟩) 3 3] [k, 0, 2147483647] by rw [hw6]; exact (by first | exact (RdI.liti (l := [k, 0, 2147483647]) b_31 (by simp; omega) (by first | (with_reducible rfl) | simp only [World.size_drew]) b_31 b_31 b_30) | exact RdI.drew (RdI.liti (l := [k, 0, 2147483647]) b_31 (by simp; omega) (by first | (with_reducible rfl) | simp only [World.size_drew]) b_31 b_31 b_30)))
  clear hw6
  refine hK.out _ _ (HCC.out _ (drz E6)) (fun hHeld => ?_)
  clear hK K
  try simp only [layz]
  refine rz1 3 (fun K hK => ?_)
  go_simp
  go_at_call 103
  refine Calls.mono (C_spec_l1Int _ (w.heap.size + 1) _ [k, 0, 2147483647] (cuz hc6) ((HL6.out.dr (B := w.heap.size + 1) (drz (Dr.refl (w.heap.size + 1) w6)) b_29).hide b_29) b_30 b_30) ?_
  rintro e w7 ⟨hd7, hc7, s, hs, rfl⟩
  obtain ⟨E7, z7⟩ := ez w6 hd7
  have is_ := mem_vk hs ik
  clear hs
  clear hd7
  refine hK.out _ _ (HCC.out _ (drz (E6.trans E7))) (fun hHeld => ?_)
  clear hK K
  try simp only [layz]
  refine tkz 5 ?_
  try simp only [layz]
  refine rz1 6 (fun K hK => ?_)
  have F7 : Dr (w.heap.size + 1) w5 w7 := (drz (E6.trans E7))
  have hO7 := Dr.blk F7 hO5 b_29
  have hX7 := Dr.blk F7 hX5 b_29
  have QX7 := QX5.dr F7 b_29
  have D7 := D5.out.trans F7
  obtain ⟨p0, p1, p2, p3, p4, g0, g1, g2, g3, g4⟩ := blk5 hO7
  have zp := hO7.lt
  go_simp
  refine abs_world (fun wO hw => ?_)
  obtain ⟨hOO, hK, hs, F⟩ := stored5n (v0 := .slice X0 (List.length x.1) Xa) (v1 := .slice X1 (List.length x.2.1) Xb) (v2 := .slice X2 (List.length x.2.2.1) Xc) (v3 := .int .i64 x.2.2.2.1) (v4 := .int .i64 x.2.2.2.2) hO7 (by first | exact .inl hw | exact .inr hw)
  have DO := Lib.hid (F w (w.heap.size + 1) (Nat.le_refl _) D7)
  have QXO := QX7.keep hs (fun q h1 h2 => hK q b_29)
  have hXO : Blk wO w2.heap.size 46 #[.slice X0 (List.length x.1) Xa, .slice X1 (List.length x.2.1) Xb, .slice X2 (List.length x.2.2.1) Xc, .int .i64 x.2.2.2.1, .int .i64 x.2.2.2.2] := (hK _ b_29).trans hX7
  obtain ⟨a0, a1, a2, a3, a4, -⟩ := blk5 hXO
  clear hw hK hs F p0 p1 p2 p3 p4 g0 g1 g2 g3 g4 hO7 hX7 QX7 D7
  refine hK.out _ _ (⟨a0, a1, a2, a3, a4⟩) (fun hHeld => ?_)
  clear hK K
  try simp only [layz]
  refine wpAnyH_done b_27 ?_ _
  refine NoPanic.normal ?_
  clear a0 a1 a2 a3 a4
  go_wp2
  obtain ⟨p0, p1, p2, p3, p4, -⟩ := blk5 hOO
  refine bodyPost_ret (v := .tuple #[.int .i64 s, .agg #[.slice X0 (List.length x.1) Xa, .slice X1 (List.length x.2.1) Xb, .slice X2 (List.length x.2.2.1) Xc, .int .i64 x.2.2.2.1, .int .i64 x.2.2.2.2]]) (by simp [results, Try.results50, go_sem, p0, p1, p2, p3, p4]) rfl ?_
  exact ⟨_, _, x, rfl, QXO.rd, HOK.out, is_, Dr.below DO.out b_29 (Nat.le_refl _)⟩
end Go.Proofs.Ytldgbnlcnlfmeaa
