/- Texts of this claim, merged by a program: Sgd Vsg Swk. -/
import Derived.Test.YtldgbnlcnlfmeaaGreatQtP
import Derived.Test.YtldgbnlcnlfmeaaGreatQt5
import Derived.Test.YtldgbnlcnlfmeaaGreatQt7
import Derived.Test.YtldgbnlcnlfmeaaGreatQt6
namespace Go.Proofs.YtldgbnlcnlfmeaaGreat
open Go.RowKit
set_option linter.unusedVariables false
set_option linter.unusedSimpArgs false
def signed (x : tData.D) (m : Int) : tData.D := (x.1, x.2.1, x.2.2.1, x.2.2.2.1, m)
def f_SignData (a : Int) (x : tData.D) : tData.D := signed x (mac a (f_SignedPortion x))
theorem mac_bd (a : Int) (l : List Int) : -9223372036854775808 ≤ mac a l ∧ mac a l ≤ 9223372036854775807 := by
 have := digest_le (a :: (l ++ [a]))
 unfold mac; omega
theorem ow_Data_parts {w : World} {cs : List Value} {x : tData.D} {fp : List Nat} (h : tData.ow w cs x fp) : ∃ (A0 : Option Addr) (c0 : Nat) (A1 : Option Addr) (c1 : Nat) (A2 : Option Addr) (c2 : Nat) (f0 f1 f2 : List Nat),
  cs = [.slice A0 (List.length x.1) c0, .slice A1 (List.length x.2.1) c1, .slice A2 (List.length x.2.2.1) c2, .int .i64 x.2.2.2.1, .int .i64 x.2.2.2.2] ∧ fp = (f0 ++ (f1 ++ (f2 ++ ([] ++ [])))) ∧
  (Ty.sl .str).ow w [.slice A0 (List.length x.1) c0] x.1 f0 ∧ (Ty.sl .byte).ow w [.slice A1 (List.length x.2.1) c1] x.2.1 f1 ∧ (Ty.sl .str).ow w [.slice A2 (List.length x.2.2.1) c2] x.2.2.1 f2 ∧
  (-9223372036854775808 ≤ x.2.2.2.1 ∧ x.2.2.2.1 ≤ 9223372036854775807) ∧ (-9223372036854775808 ≤ x.2.2.2.2 ∧ x.2.2.2.2 ≤ 9223372036854775807) := by
 obtain ⟨p0, r0, f0, q0, rfl, rfl, h0, p1, r1, f1, q1, rfl, rfl, h1, p2, r2, f2, q2, rfl, rfl, h2, p3, r3, f3, q3, rfl, rfl, ⟨⟨rfl, b3⟩, rfl⟩, ⟨⟨rfl, b4⟩, rfl⟩⟩ := h
 obtain ⟨A0, c0, rfl⟩ := Ty.ow_slv h0
 obtain ⟨A1, c1, rfl⟩ := Ty.ow_slv h1
 obtain ⟨A2, c2, rfl⟩ := Ty.ow_slv h2
 exact ⟨A0, c0, A1, c1, A2, c2, f0, f1, f2, rfl, rfl, h0, h1, h2, b3, b4⟩
theorem ow_signed {w : World} {x : tData.D} {A0 A1 A2 : Option Addr} {c0 c1 c2 : Nat} {fp : List Nat} {m : Int} (h : tData.ow w [.slice A0 (List.length x.1) c0, .slice A1 (List.length x.2.1) c1, .slice A2 (List.length x.2.2.1) c2, .int .i64 x.2.2.2.1, .int .i64 x.2.2.2.2] x fp) (hm : -9223372036854775808 ≤ m ∧ m ≤ 9223372036854775807) :
  tData.ow w [.slice A0 (List.length x.1) c0, .slice A1 (List.length x.2.1) c1, .slice A2 (List.length x.2.2.1) c2, .int .i64 x.2.2.2.1, .int .i64 m] (signed x m) fp := by
 obtain ⟨B0, d0, B1, d1, B2, d2, f0, f1, f2, he, rfl, h0, h1, h2, b3, b4⟩ := ow_Data_parts h
 simp only [List.cons.injEq, Value.slice.injEq, and_true, true_and] at he
 obtain ⟨⟨rfl, rfl⟩, ⟨rfl, rfl⟩, rfl, rfl⟩ := he
 exact ow_Data_mk (x := signed x m) h0 h1 h2 b3 hm
set_option maxRecDepth 100000 in
set_option maxHeartbeats 2000000 in
theorem C_impl_SignDataB (w : World) (a : Int) (cs : List Value) (x : tData.D) (h : tData.rd w cs x) (i0 : -9223372036854775808 ≤ a ∧ a ≤ 9223372036854775807) (s0 : Ty.bulk tData x ≤ 4000000) :
  Calls Tryz.prog 92 #[.int .i64 a, .agg cs.toArray] w (RetAgg w tData (f_SignData a x)) := by
 have h' := h
 obtain ⟨As0, cs0, As1, cs1, As2, cs2, rfl, sg0, sg1, sg2, sg3, sg4⟩ := rd_Data h
 have HMB := Lib.hid (mac_bd a (f_SignedPortion x))
 have HLS := Lib.hid (signed_lenB s0)
 have HF := Lib.hid (show f_SignData a x = signed x (mac a (f_SignedPortion x)) from rfl)
 go_enter Tryz.func92, Tryz.ntmps92
 go_wp2_with fail
 refine (C_impl_copyData _ _ x (Ty.rd_below b_10 h') b_37).mono ?_
 rintro e w0 ⟨cs0, fp0, rfl, how0, hfr0, hb0⟩
 obtain ⟨Ad0, cd0, Ad1, cd1, Ad2, cd2, rfl⟩ := ow_Data how0
 have hz0 := hb0.size
 simp only [World.size_alloc] at hz0
 have hw0 : Below w.heap.size w w0 := bel_trans b_10 hb0
 have hB0 : Blk w0 (w.heap.size) 34 #[.slice As0 (List.length x.1) cs0, .slice As1 (List.length x.2.1) cs1, .slice As2 (List.length x.2.2.1) cs2, .int .i64 x.2.2.2.1, .int .i64 x.2.2.2.2] := ((Blk.new w 34 #[.slice As0 (List.length x.1) cs0, .slice As1 (List.length x.2.1) cs1, .slice As2 (List.length x.2.2.1) cs2, .int .i64 x.2.2.2.1, .int .i64 x.2.2.2.2]).alloc _).below hb0 b_30
 have hR0 : Blk w0 (w.heap.size + 1) 34 #[.slice none 0 0, .slice none 0 0, .slice none 0 0, .int .i64 0, .int .i64 0] := (show Blk ((w.alloc (.cells #[.slice As0 (List.length x.1) cs0, .slice As1 (List.length x.2.1) cs1, .slice As2 (List.length x.2.2.1) cs2, .int .i64 x.2.2.2.1, .int .i64 x.2.2.2.2] 34)).alloc (.cells #[.slice none 0 0, .slice none 0 0, .slice none 0 0, .int .i64 0, .int .i64 0] 34)) (w.heap.size + 1) 34 #[.slice none 0 0, .slice none 0 0, .slice none 0 0, .int .i64 0, .int .i64 0] from by have := Blk.new (w.alloc (.cells #[.slice As0 (List.length x.1) cs0, .slice As1 (List.length x.2.1) cs1, .slice As2 (List.length x.2.2.1) cs2, .int .i64 x.2.2.2.1, .int .i64 x.2.2.2.2] 34)) 34 #[.slice none 0 0, .slice none 0 0, .slice none 0 0, .int .i64 0, .int .i64 0]; rwa [World.size_alloc] at this).below hb0 b_30
 obtain ⟨kB_0_0, kB_0_1, kB_0_2, kB_0_3, kB_0_4, -, -, -, -, -, zB_0⟩ := bk5 hB0
 go_wp2_with fail
 refine (C_impl_SignedPortionB _ _ x (Ty.rd_below (bel_alloc hw0 _) h') s0).mono ?_
 rintro e w1 ⟨v1, rfl, hr1, hb1⟩
 have hz1 := hb1.size
 simp only [World.size_alloc] at hz1
 have hw1 : Below w.heap.size w w1 := bel_trans (bel_alloc hw0 _) hb1
 have HR1 := Lib.hid (hr1.rd hb1.size)
 clear hr1
 clear kB_0_0 kB_0_1 kB_0_2 kB_0_3 kB_0_4
 have hR1 : Blk w1 (w.heap.size + 1) 34 #[.slice none 0 0, .slice none 0 0, .slice none 0 0, .int .i64 0, .int .i64 0] := (hR0.alloc _).below hb1 b_30
 have hO1 : Blk w1 w0.heap.size 34 #[.slice Ad0 (List.length x.1) cd0, .slice Ad1 (List.length x.2.1) cd1, .slice Ad2 (List.length x.2.2.1) cd2, .int .i64 x.2.2.2.1, .int .i64 x.2.2.2.2] := (Blk.new w0 34 #[.slice Ad0 (List.length x.1) cd0, .slice Ad1 (List.length x.2.1) cd1, .slice Ad2 (List.length x.2.2.1) cd2, .int .i64 x.2.2.2.1, .int .i64 x.2.2.2.2]).below hb1 b_30
 go_wp2_with fail
 refine (C_impl_ComputeMAC _ _ a (f_SignedPortion x) i0 HR1.out (Nat.le_trans HLS.out b_36)).mono ?_
 rintro e w2 ⟨rfl, hb2⟩
 have hz2 := hb2.size
 have hw2 : Below w.heap.size w w2 := bel_trans hw1 hb2
 have hR2 : Blk w2 (w.heap.size + 1) 34 #[.slice none 0 0, .slice none 0 0, .slice none 0 0, .int .i64 0, .int .i64 0] := hR1.below hb2 b_37
 have hO2 : Blk w2 w0.heap.size 34 #[.slice Ad0 (List.length x.1) cd0, .slice Ad1 (List.length x.2.1) cd1, .slice Ad2 (List.length x.2.2.1) cd2, .int .i64 x.2.2.2.1, .int .i64 x.2.2.2.2] := hO1.below hb2 b_37
 obtain ⟨kR_2_0, kR_2_1, kR_2_2, kR_2_3, kR_2_4, fR_2_0, fR_2_1, fR_2_2, fR_2_3, fR_2_4, zR_2⟩ := bk5 hR2
 obtain ⟨kO_2_0, kO_2_1, kO_2_2, kO_2_3, kO_2_4, fO_2_0, fO_2_1, fO_2_2, fO_2_3, fO_2_4, zO_2⟩ := bk5 hO2
 go_wp2
 refine bodyPost_ret (v := .agg #[.slice Ad0 (List.length x.1) cd0, .slice Ad1 (List.length x.2.1) cd1, .slice Ad2 (List.length x.2.2.1) cd2, .int .i64 x.2.2.2.1, .int .i64 (mac a (f_SignedPortion x))]) (by simp [results, Tryz.results92, go_sem, kR_2_0, fR_2_0, kR_2_1, fR_2_1, kR_2_2, fR_2_2, kR_2_3, fR_2_3, kR_2_4, fR_2_4, kO_2_0, fO_2_0, kO_2_1, fO_2_1, kO_2_2, fO_2_2, kO_2_3, fO_2_3, kO_2_4, fO_2_4]) rfl ?_
 rw [HF.out]
 exact ⟨_, fp0, rfl, ow_signed (Ty.ow_keep b_1 how0) HMB.out, hfr0.mono b_30 b_32, b_10⟩
set_option maxRecDepth 100000 in
set_option maxHeartbeats 2000000 in
theorem C_spec_SignDataB (w : World) (a : Int) (cs : List Value) (x : tData.D) (h : tData.rd w cs x) (i0 : -9223372036854775808 ≤ a ∧ a ≤ 9223372036854775807) (s0 : Ty.bulk tData x ≤ 4000000) :
  Calls Tryz.prog 96 #[.int .i64 a, .agg cs.toArray] w (RetAgg w tData (f_SignData a x)) := by
 have h' := h
 obtain ⟨As0, cs0, As1, cs1, As2, cs2, rfl, sg0, sg1, sg2, sg3, sg4⟩ := rd_Data h
 have HMB := Lib.hid (mac_bd a (f_SignedPortion x))
 have HLS := Lib.hid (signed_lenB s0)
 have HF := Lib.hid (show f_SignData a x = signed x (mac a (f_SignedPortion x)) from rfl)
 go_enter Tryz.func96, Tryz.ntmps96
 go_wp2_with fail
 refine (C_spec_l8Copy _ _ x (Ty.rd_below b_10 h') b_37).mono ?_
 rintro e w0 ⟨cs0, fp0, rfl, how0, hfr0, hb0⟩
 obtain ⟨Ad0, cd0, Ad1, cd1, Ad2, cd2, rfl⟩ := ow_Data how0
 have hz0 := hb0.size
 simp only [World.size_alloc] at hz0
 have hw0 : Below w.heap.size w w0 := bel_trans b_10 hb0
 have hB0 : Blk w0 (w.heap.size) 34 #[.slice As0 (List.length x.1) cs0, .slice As1 (List.length x.2.1) cs1, .slice As2 (List.length x.2.2.1) cs2, .int .i64 x.2.2.2.1, .int .i64 x.2.2.2.2] := ((Blk.new w 34 #[.slice As0 (List.length x.1) cs0, .slice As1 (List.length x.2.1) cs1, .slice As2 (List.length x.2.2.1) cs2, .int .i64 x.2.2.2.1, .int .i64 x.2.2.2.2]).alloc _).below hb0 b_30
 have hR0 : Blk w0 (w.heap.size + 1) 34 #[.slice none 0 0, .slice none 0 0, .slice none 0 0, .int .i64 0, .int .i64 0] := (show Blk ((w.alloc (.cells #[.slice As0 (List.length x.1) cs0, .slice As1 (List.length x.2.1) cs1, .slice As2 (List.length x.2.2.1) cs2, .int .i64 x.2.2.2.1, .int .i64 x.2.2.2.2] 34)).alloc (.cells #[.slice none 0 0, .slice none 0 0, .slice none 0 0, .int .i64 0, .int .i64 0] 34)) (w.heap.size + 1) 34 #[.slice none 0 0, .slice none 0 0, .slice none 0 0, .int .i64 0, .int .i64 0] from by have := Blk.new (w.alloc (.cells #[.slice As0 (List.length x.1) cs0, .slice As1 (List.length x.2.1) cs1, .slice As2 (List.length x.2.2.1) cs2, .int .i64 x.2.2.2.1, .int .i64 x.2.2.2.2] 34)) 34 #[.slice none 0 0, .slice none 0 0, .slice none 0 0, .int .i64 0, .int .i64 0]; rwa [World.size_alloc] at this).below hb0 b_30
 obtain ⟨kB_0_0, kB_0_1, kB_0_2, kB_0_3, kB_0_4, -, -, -, -, -, zB_0⟩ := bk5 hB0
 go_wp2_with fail
 refine (C_spec_SignedPortionB _ _ x (Ty.rd_below (bel_alloc hw0 _) h') s0).mono ?_
 rintro e w1 ⟨v1, rfl, hr1, hb1⟩
 have hz1 := hb1.size
 simp only [World.size_alloc] at hz1
 have hw1 : Below w.heap.size w w1 := bel_trans (bel_alloc hw0 _) hb1
 have HR1 := Lib.hid (hr1.rd hb1.size)
 clear hr1
 clear kB_0_0 kB_0_1 kB_0_2 kB_0_3 kB_0_4
 have hR1 : Blk w1 (w.heap.size + 1) 34 #[.slice none 0 0, .slice none 0 0, .slice none 0 0, .int .i64 0, .int .i64 0] := (hR0.alloc _).below hb1 b_30
 have hO1 : Blk w1 w0.heap.size 34 #[.slice Ad0 (List.length x.1) cd0, .slice Ad1 (List.length x.2.1) cd1, .slice Ad2 (List.length x.2.2.1) cd2, .int .i64 x.2.2.2.1, .int .i64 x.2.2.2.2] := (Blk.new w0 34 #[.slice Ad0 (List.length x.1) cd0, .slice Ad1 (List.length x.2.1) cd1, .slice Ad2 (List.length x.2.2.1) cd2, .int .i64 x.2.2.2.1, .int .i64 x.2.2.2.2]).below hb1 b_30
 go_wp2_with fail
 refine (C_spec_ComputeMAC _ _ a (f_SignedPortion x) i0 HR1.out (Nat.le_trans HLS.out b_36)).mono ?_
 rintro e w2 ⟨rfl, hb2⟩
 have hz2 := hb2.size
 have hw2 : Below w.heap.size w w2 := bel_trans hw1 hb2
 have hR2 : Blk w2 (w.heap.size + 1) 34 #[.slice none 0 0, .slice none 0 0, .slice none 0 0, .int .i64 0, .int .i64 0] := hR1.below hb2 b_37
 have hO2 : Blk w2 w0.heap.size 34 #[.slice Ad0 (List.length x.1) cd0, .slice Ad1 (List.length x.2.1) cd1, .slice Ad2 (List.length x.2.2.1) cd2, .int .i64 x.2.2.2.1, .int .i64 x.2.2.2.2] := hO1.below hb2 b_37
 obtain ⟨kR_2_0, kR_2_1, kR_2_2, kR_2_3, kR_2_4, fR_2_0, fR_2_1, fR_2_2, fR_2_3, fR_2_4, zR_2⟩ := bk5 hR2
 obtain ⟨kO_2_0, kO_2_1, kO_2_2, kO_2_3, kO_2_4, fO_2_0, fO_2_1, fO_2_2, fO_2_3, fO_2_4, zO_2⟩ := bk5 hO2
 go_wp2
 refine bodyPost_ret (v := .agg #[.slice Ad0 (List.length x.1) cd0, .slice Ad1 (List.length x.2.1) cd1, .slice Ad2 (List.length x.2.2.1) cd2, .int .i64 x.2.2.2.1, .int .i64 (mac a (f_SignedPortion x))]) (by simp [results, Tryz.results96, go_sem, kR_2_0, fR_2_0, kR_2_1, fR_2_1, kR_2_2, fR_2_2, kR_2_3, fR_2_3, kR_2_4, fR_2_4, kO_2_0, fO_2_0, kO_2_1, fO_2_1, kO_2_2, fO_2_2, kO_2_3, fO_2_3, kO_2_4, fO_2_4]) rfl ?_
 rw [HF.out]
 exact ⟨_, fp0, rfl, ow_signed (Ty.ow_keep b_1 how0) HMB.out, hfr0.mono b_30 b_32, b_10⟩
def f_VerifySignature (l : List (Ty.D tKey)) (x : tData.D) : Bool := f_VerifyData (f_SecretOf l x.2.2.1) x
theorem keyName_bulk {x : tData.D} (s : Ty.bulk tData x ≤ 1048576) : Ty.bulk (.sl .str) x.2.2.1 ≤ 1048576 := by
 have h1 : Ty.bulk (.sl .str) x.1 + (Ty.bulk (.sl .byte) x.2.1 + (Ty.bulk (.sl .str) x.2.2.1 + (0 + 0))) ≤ 1048576 := s
 omega
set_option maxHeartbeats 4000000 in
theorem C_impl_VerifySignature (w : World) (v : Value) (l : List (Ty.D tKey)) (cs : List Value) (x : tData.D) (h1 : (Ty.sl tKey).rd w [v] l) (h : tData.rd w cs x) (s0 : Ty.bulk (.sl tKey) l ≤ 1048576) (s1 : Ty.bulk tData x ≤ 1048576) :
  Calls Tryz.prog 31 #[v, .agg cs.toArray] w (RetB w (f_VerifySignature l x)) := by
 have h' := h
 obtain ⟨A0, c0, A1, c1, A2, c2, rfl, g0, g1, g2, b3, b4⟩ := rd_Data h
 have hbd := secret_bd x.2.2.1 h1
 have hkb := keyName_bulk s1
 have kb0 : (w.alloc (.cells #[.slice A0 (List.length x.1) c0, .slice A1 (List.length x.2.1) c1, .slice A2 (List.length x.2.2.1) c2, .int .i64 x.2.2.2.1, .int .i64 x.2.2.2.2] 34)).cell? ⟨w.heap.size, 0, none⟩ = some (.slice A0 (List.length x.1) c0) := cell_new w _ _ 0 rfl
 have kb1 : (w.alloc (.cells #[.slice A0 (List.length x.1) c0, .slice A1 (List.length x.2.1) c1, .slice A2 (List.length x.2.2.1) c2, .int .i64 x.2.2.2.1, .int .i64 x.2.2.2.2] 34)).cell? ⟨w.heap.size, 1, none⟩ = some (.slice A1 (List.length x.2.1) c1) := cell_new w _ _ 1 rfl
 have kb2 : (w.alloc (.cells #[.slice A0 (List.length x.1) c0, .slice A1 (List.length x.2.1) c1, .slice A2 (List.length x.2.2.1) c2, .int .i64 x.2.2.2.1, .int .i64 x.2.2.2.2] 34)).cell? ⟨w.heap.size, 2, none⟩ = some (.slice A2 (List.length x.2.2.1) c2) := cell_new w _ _ 2 rfl
 have kb3 : (w.alloc (.cells #[.slice A0 (List.length x.1) c0, .slice A1 (List.length x.2.1) c1, .slice A2 (List.length x.2.2.1) c2, .int .i64 x.2.2.2.1, .int .i64 x.2.2.2.2] 34)).cell? ⟨w.heap.size, 3, none⟩ = some (.int .i64 x.2.2.2.1) := cell_new w _ _ 3 rfl
 have kb4 : (w.alloc (.cells #[.slice A0 (List.length x.1) c0, .slice A1 (List.length x.2.1) c1, .slice A2 (List.length x.2.2.1) c2, .int .i64 x.2.2.2.1, .int .i64 x.2.2.2.2] 34)).cell? ⟨w.heap.size, 4, none⟩ = some (.int .i64 x.2.2.2.2) := cell_new w _ _ 4 rfl
 have hvb : Below w.heap.size w (w.alloc (.cells #[.slice A0 (List.length x.1) c0, .slice A1 (List.length x.2.1) c1, .slice A2 (List.length x.2.2.1) c2, .int .i64 x.2.2.2.1, .int .i64 x.2.2.2.2] 34)) := b_10
 have zb : w.heap.size < (w.alloc (.cells #[.slice A0 (List.length x.1) c0, .slice A1 (List.length x.2.1) c1, .slice A2 (List.length x.2.2.1) c2, .int .i64 x.2.2.2.1, .int .i64 x.2.2.2.2] 34)).heap.size := by rw [World.size_alloc]; omega
 have zb0 := Lib.hid (show (w.alloc (.cells #[.slice A0 (List.length x.1) c0, .slice A1 (List.length x.2.1) c1, .slice A2 (List.length x.2.2.1) c2, .int .i64 x.2.2.2.1, .int .i64 x.2.2.2.2] 34)).heap.size = w.heap.size + 1 from by rw [World.size_alloc])
 go_enter Tryz.func31, Tryz.ntmps31
 go_wp2_with fail
 generalize (w.alloc (.cells #[.slice A0 (List.length x.1) c0, .slice A1 (List.length x.2.1) c1, .slice A2 (List.length x.2.2.1) c2, .int .i64 x.2.2.2.1, .int .i64 x.2.2.2.2] 34)) = WX at kb0 kb1 kb2 kb3 kb4 hvb zb zb0 ⊢
 have HC : Hid (∀ W, Below WX.heap.size WX W → W.cell? ⟨w.heap.size, 0, none⟩ = some (.slice A0 (List.length x.1) c0) ∧ W.cell? ⟨w.heap.size, 1, none⟩ = some (.slice A1 (List.length x.2.1) c1) ∧ W.cell? ⟨w.heap.size, 2, none⟩ = some (.slice A2 (List.length x.2.2.1) c2) ∧ W.cell? ⟨w.heap.size, 3, none⟩ = some (.int .i64 x.2.2.2.1) ∧ W.cell? ⟨w.heap.size, 4, none⟩ = some (.int .i64 x.2.2.2.2)) := fun W hW => ⟨(hW.cell (p := ⟨w.heap.size, 0, none⟩) zb).trans kb0, (hW.cell (p := ⟨w.heap.size, 1, none⟩) zb).trans kb1, (hW.cell (p := ⟨w.heap.size, 2, none⟩) zb).trans kb2, (hW.cell (p := ⟨w.heap.size, 3, none⟩) zb).trans kb3, (hW.cell (p := ⟨w.heap.size, 4, none⟩) zb).trans kb4⟩
 clear kb0 kb1 kb2 kb3 kb4
 have HS : Hid (∀ W, Below WX.heap.size WX W → Below WX.heap.size WX W ∧ W.cell? ⟨w.heap.size, 0, none⟩ = some (.slice A0 (List.length x.1) c0) ∧ W.cell? ⟨w.heap.size, 1, none⟩ = some (.slice A1 (List.length x.2.1) c1) ∧ W.cell? ⟨w.heap.size, 2, none⟩ = some (.slice A2 (List.length x.2.2.1) c2) ∧ W.cell? ⟨w.heap.size, 3, none⟩ = some (.int .i64 x.2.2.2.1) ∧ W.cell? ⟨w.heap.size, 4, none⟩ = some (.int .i64 x.2.2.2.2)) := fun W hW => ⟨hW, HC.out W hW⟩
 set_option maxRecDepth 100000 in go_region_held3 (fun W => Below WX.heap.size WX W ∧ W.cell? ⟨w.heap.size, 0, none⟩ = some (.slice A0 (List.length x.1) c0) ∧ W.cell? ⟨w.heap.size, 1, none⟩ = some (.slice A1 (List.length x.2.1) c1) ∧ W.cell? ⟨w.heap.size, 2, none⟩ = some (.slice A2 (List.length x.2.2.1) c2) ∧ W.cell? ⟨w.heap.size, 3, none⟩ = some (.int .i64 x.2.2.2.1) ∧ W.cell? ⟨w.heap.size, 4, none⟩ = some (.int .i64 x.2.2.2.2)) (exact HS.out _ b_4)
  (first
   | (go_at_call 47; (with_reducible refine (C_impl_SecretOf _ _ l _ x.2.2.1 (Ty.rd_below b_4 (Ty.rd_below hvb h1)) (Ty.rd_below b_4 (Ty.rd_below hvb g2)) s0 hkb).mono ?_); rintro e w1 ⟨rfl, hb1⟩)
   | (go_at_call 89; (with_reducible refine (C_impl_VerifyData _ _ _ x (Ty.rd_below b_4 (Ty.rd_below hvb h')) hbd s1).mono ?_); rintro e w2 ⟨rfl, hb2⟩)
   | fail)
 all_goals
  go_wp2
  go_ret
  exact ⟨rfl, bel_trans hvb b_4⟩
set_option maxHeartbeats 4000000 in
theorem C_spec_VerifySignature (w : World) (v : Value) (l : List (Ty.D tKey)) (cs : List Value) (x : tData.D) (h1 : (Ty.sl tKey).rd w [v] l) (h : tData.rd w cs x) (s0 : Ty.bulk (.sl tKey) l ≤ 1048576) (s1 : Ty.bulk tData x ≤ 1048576) :
  Calls Tryz.prog 42 #[v, .agg cs.toArray] w (RetB w (f_VerifySignature l x)) := by
 have h' := h
 obtain ⟨A0, c0, A1, c1, A2, c2, rfl, g0, g1, g2, b3, b4⟩ := rd_Data h
 have hbd := secret_bd x.2.2.1 h1
 have hkb := keyName_bulk s1
 have kb0 : (w.alloc (.cells #[.slice A0 (List.length x.1) c0, .slice A1 (List.length x.2.1) c1, .slice A2 (List.length x.2.2.1) c2, .int .i64 x.2.2.2.1, .int .i64 x.2.2.2.2] 34)).cell? ⟨w.heap.size, 0, none⟩ = some (.slice A0 (List.length x.1) c0) := cell_new w _ _ 0 rfl
 have kb1 : (w.alloc (.cells #[.slice A0 (List.length x.1) c0, .slice A1 (List.length x.2.1) c1, .slice A2 (List.length x.2.2.1) c2, .int .i64 x.2.2.2.1, .int .i64 x.2.2.2.2] 34)).cell? ⟨w.heap.size, 1, none⟩ = some (.slice A1 (List.length x.2.1) c1) := cell_new w _ _ 1 rfl
 have kb2 : (w.alloc (.cells #[.slice A0 (List.length x.1) c0, .slice A1 (List.length x.2.1) c1, .slice A2 (List.length x.2.2.1) c2, .int .i64 x.2.2.2.1, .int .i64 x.2.2.2.2] 34)).cell? ⟨w.heap.size, 2, none⟩ = some (.slice A2 (List.length x.2.2.1) c2) := cell_new w _ _ 2 rfl
 have kb3 : (w.alloc (.cells #[.slice A0 (List.length x.1) c0, .slice A1 (List.length x.2.1) c1, .slice A2 (List.length x.2.2.1) c2, .int .i64 x.2.2.2.1, .int .i64 x.2.2.2.2] 34)).cell? ⟨w.heap.size, 3, none⟩ = some (.int .i64 x.2.2.2.1) := cell_new w _ _ 3 rfl
 have kb4 : (w.alloc (.cells #[.slice A0 (List.length x.1) c0, .slice A1 (List.length x.2.1) c1, .slice A2 (List.length x.2.2.1) c2, .int .i64 x.2.2.2.1, .int .i64 x.2.2.2.2] 34)).cell? ⟨w.heap.size, 4, none⟩ = some (.int .i64 x.2.2.2.2) := cell_new w _ _ 4 rfl
 have hvb : Below w.heap.size w (w.alloc (.cells #[.slice A0 (List.length x.1) c0, .slice A1 (List.length x.2.1) c1, .slice A2 (List.length x.2.2.1) c2, .int .i64 x.2.2.2.1, .int .i64 x.2.2.2.2] 34)) := b_10
 have zb : w.heap.size < (w.alloc (.cells #[.slice A0 (List.length x.1) c0, .slice A1 (List.length x.2.1) c1, .slice A2 (List.length x.2.2.1) c2, .int .i64 x.2.2.2.1, .int .i64 x.2.2.2.2] 34)).heap.size := by rw [World.size_alloc]; omega
 have zb0 := Lib.hid (show (w.alloc (.cells #[.slice A0 (List.length x.1) c0, .slice A1 (List.length x.2.1) c1, .slice A2 (List.length x.2.2.1) c2, .int .i64 x.2.2.2.1, .int .i64 x.2.2.2.2] 34)).heap.size = w.heap.size + 1 from by rw [World.size_alloc])
 go_enter Tryz.func42, Tryz.ntmps42
 go_wp2_with fail
 generalize (w.alloc (.cells #[.slice A0 (List.length x.1) c0, .slice A1 (List.length x.2.1) c1, .slice A2 (List.length x.2.2.1) c2, .int .i64 x.2.2.2.1, .int .i64 x.2.2.2.2] 34)) = WX at kb0 kb1 kb2 kb3 kb4 hvb zb zb0 ⊢
 have HC : Hid (∀ W, Below WX.heap.size WX W → W.cell? ⟨w.heap.size, 0, none⟩ = some (.slice A0 (List.length x.1) c0) ∧ W.cell? ⟨w.heap.size, 1, none⟩ = some (.slice A1 (List.length x.2.1) c1) ∧ W.cell? ⟨w.heap.size, 2, none⟩ = some (.slice A2 (List.length x.2.2.1) c2) ∧ W.cell? ⟨w.heap.size, 3, none⟩ = some (.int .i64 x.2.2.2.1) ∧ W.cell? ⟨w.heap.size, 4, none⟩ = some (.int .i64 x.2.2.2.2)) := fun W hW => ⟨(hW.cell (p := ⟨w.heap.size, 0, none⟩) zb).trans kb0, (hW.cell (p := ⟨w.heap.size, 1, none⟩) zb).trans kb1, (hW.cell (p := ⟨w.heap.size, 2, none⟩) zb).trans kb2, (hW.cell (p := ⟨w.heap.size, 3, none⟩) zb).trans kb3, (hW.cell (p := ⟨w.heap.size, 4, none⟩) zb).trans kb4⟩
 clear kb0 kb1 kb2 kb3 kb4
 have HS : Hid (∀ W, Below WX.heap.size WX W → Below WX.heap.size WX W ∧ W.cell? ⟨w.heap.size, 0, none⟩ = some (.slice A0 (List.length x.1) c0) ∧ W.cell? ⟨w.heap.size, 1, none⟩ = some (.slice A1 (List.length x.2.1) c1) ∧ W.cell? ⟨w.heap.size, 2, none⟩ = some (.slice A2 (List.length x.2.2.1) c2) ∧ W.cell? ⟨w.heap.size, 3, none⟩ = some (.int .i64 x.2.2.2.1) ∧ W.cell? ⟨w.heap.size, 4, none⟩ = some (.int .i64 x.2.2.2.2)) := fun W hW => ⟨hW, HC.out W hW⟩
 set_option maxRecDepth 100000 in go_region_held3 (fun W => Below WX.heap.size WX W ∧ W.cell? ⟨w.heap.size, 0, none⟩ = some (.slice A0 (List.length x.1) c0) ∧ W.cell? ⟨w.heap.size, 1, none⟩ = some (.slice A1 (List.length x.2.1) c1) ∧ W.cell? ⟨w.heap.size, 2, none⟩ = some (.slice A2 (List.length x.2.2.1) c2) ∧ W.cell? ⟨w.heap.size, 3, none⟩ = some (.int .i64 x.2.2.2.1) ∧ W.cell? ⟨w.heap.size, 4, none⟩ = some (.int .i64 x.2.2.2.2)) (exact HS.out _ b_4)
  (first
   | (go_at_call 48; (with_reducible refine (C_spec_SecretOf _ _ l _ x.2.2.1 (Ty.rd_below b_4 (Ty.rd_below hvb h1)) (Ty.rd_below b_4 (Ty.rd_below hvb g2)) s0 hkb).mono ?_); rintro e w1 ⟨rfl, hb1⟩)
   | (go_at_call 100; (with_reducible refine (C_spec_VerifyData _ _ _ x (Ty.rd_below b_4 (Ty.rd_below hvb h')) hbd s1).mono ?_); rintro e w2 ⟨rfl, hb2⟩)
   | fail)
 all_goals
  go_wp2
  go_ret
  exact ⟨rfl, bel_trans hvb b_4⟩
def swkD (by_ n : List (List UInt8)) (b : List UInt8) (till : Int) : tData.D := (n, b, by_, till, 0)
def swkX (l : List (Ty.D tKey)) (by_ n : List (List UInt8)) (b : List UInt8) (till : Int) : tData.D := f_SignData (f_SecretOf l by_) (swkD by_ n b till)
def zeroData : tData.D := ([], [], [], 0, 0)
def f1_SignWithKey (l : List (Ty.D tKey)) (by_ n : List (List UInt8)) (b : List UInt8) (till : Int) : Bool := !(decide (f_SecretOf l by_ = 0)) && f_ValidData (swkX l by_ n b till)
def f0_SignWithKey (l : List (Ty.D tKey)) (by_ n : List (List UInt8)) (b : List UInt8) (till : Int) : tData.D := if f1_SignWithKey l by_ n b till = true then swkX l by_ n b till else zeroData
theorem swk_no {l : List (Ty.D tKey)} {by_ n : List (List UInt8)} {b : List UInt8} {till : Int} (h : f1_SignWithKey l by_ n b till = false) : f0_SignWithKey l by_ n b till = zeroData := by unfold f0_SignWithKey; rw [h]; rfl
theorem swk_yes {l : List (Ty.D tKey)} {by_ n : List (List UInt8)} {b : List UInt8} {till : Int} (h : f1_SignWithKey l by_ n b till = true) : f0_SignWithKey l by_ n b till = swkX l by_ n b till := by unfold f0_SignWithKey; rw [h]; rfl
theorem swk_bulk (by_ n : List (List UInt8)) (b : List UInt8) (till : Int) : Ty.bulk tData (swkD by_ n b till) = Ty.bulk (.sl .str) n + (Ty.bulk (.sl .byte) b + Ty.bulk (.sl .str) by_) := by
 show Ty.bulk (.sl .str) n + (Ty.bulk (.sl .byte) b + (Ty.bulk (.sl .str) by_ + (0 + 0))) = _
 omega
theorem rd_Data_mk {w : World} {x : tData.D} {v0 v1 v2 : Value} (h0 : (Ty.sl .str).rd w [v0] x.1) (h1 : (Ty.sl .byte).rd w [v1] x.2.1) (h2 : (Ty.sl .str).rd w [v2] x.2.2.1) (b3 : -9223372036854775808 ≤ x.2.2.2.1 ∧ x.2.2.2.1 ≤ 9223372036854775807) (b4 : -9223372036854775808 ≤ x.2.2.2.2 ∧ x.2.2.2.2 ≤ 9223372036854775807) :
  tData.rd w [v0, v1, v2, .int .i64 x.2.2.2.1, .int .i64 x.2.2.2.2] x :=
 ⟨[v0], [v1, v2, .int .i64 x.2.2.2.1, .int .i64 x.2.2.2.2], rfl, h0, [v1], [v2, .int .i64 x.2.2.2.1, .int .i64 x.2.2.2.2], rfl, h1, [v2], [.int .i64 x.2.2.2.1, .int .i64 x.2.2.2.2], rfl, h2, [_], [_], rfl, ⟨rfl, b3⟩, ⟨rfl, b4⟩⟩
theorem ow_zeroData (w : World) : tData.ow w [.slice none 0 0, .slice none 0 0, .slice none 0 0, .int .i64 0, .int .i64 0] zeroData ([] ++ ([] ++ ([] ++ ([] ++ [])))) :=
 ow_Data_mk (x := zeroData) (rd_ow_nil w .str) (rd_ow_nil w .byte) (rd_ow_nil w .str) b_36 b_36
theorem fr_zero (lo hi : Nat) : FrI lo hi ([] ++ ([] ++ ([] ++ ([] ++ [])))) := FrI.nil lo hi
set_option maxRecDepth 100000 in
set_option maxHeartbeats 4000000 in
theorem C_impl_SignWithKeyB (w : World) (v0 : Value) (l : List (Ty.D tKey)) (cs1 : List Value) (by_ : List (List UInt8)) (cs2 : List Value) (n : List (List UInt8)) (v3 : Value) (b : List UInt8) (till : Int) (h0 : (Ty.sl tKey).rd w [v0] l) (h1 : (Ty.sl .str).rd w cs1 by_) (h2 : (Ty.sl .str).rd w cs2 n) (h3 : (Ty.sl .byte).rd w [v3] b) (s0 : Ty.bulk (.sl tKey) l ≤ 1048576) (s1 : Ty.bulk (.sl .str) by_ ≤ 1048576) (s2 : Ty.bulk (.sl .str) n ≤ 1048576) (s3 : Ty.bulk (.sl .byte) b ≤ 1048576) (i4 : -9223372036854775808 ≤ till ∧ till ≤ 9223372036854775807) :
  Calls Tryz.prog 34 #[v0, .agg cs1.toArray, .agg cs2.toArray, v3, .int .i64 till] w (RetAgg2 w tData (f0_SignWithKey l by_ n b till) (.bool (f1_SignWithKey l by_ n b till))) := by
 obtain ⟨Ak, ck, rfl⟩ := Ty.rd_slv h1
 obtain ⟨An, cn, rfl⟩ := Ty.rd_slv h2
 obtain ⟨Ab, cb, rfl, _, _, _⟩ := Ty.rd_sl h3
 have hsb := secret_bd by_ h0
 have hbk : Ty.bulk tData (swkD by_ n b till) ≤ 4000000 := by rw [swk_bulk]; omega
 have hX : swkX l by_ n b till = f_SignData (f_SecretOf l by_) (swkD by_ n b till) := rfl
 have hF1 : f1_SignWithKey l by_ n b till = (!(decide (f_SecretOf l by_ = 0)) && f_ValidData (swkX l by_ n b till)) := rfl
 have HNO := Lib.hid (fun h => swk_no (l := l) (by_ := by_) (n := n) (b := b) (till := till) h)
 have HYES := Lib.hid (fun h => swk_yes (l := l) (by_ := by_) (n := n) (b := b) (till := till) h)
 generalize f0_SignWithKey l by_ n b till = F0 at HNO HYES ⊢
 generalize f1_SignWithKey l by_ n b till = F1 at hF1 HNO HYES ⊢
 generalize swkX l by_ n b till = X at hX hF1 HYES
 have HX := Lib.hid hX
 have HF1 := Lib.hid hF1
 clear hX hF1
 have hBK : Blk (((w.alloc (.cells #[.slice Ak by_.length ck] 32)).alloc (.cells #[.slice An n.length cn] 32)).alloc (.cells #[.slice none 0 0, .slice none 0 0, .slice none 0 0, .int .i64 0, .int .i64 0] 34)) (w.heap.size) 32 #[.slice Ak by_.length ck] := ((Blk.new w 32 #[.slice Ak by_.length ck]).alloc _).alloc _
 have hBN : Blk (((w.alloc (.cells #[.slice Ak by_.length ck] 32)).alloc (.cells #[.slice An n.length cn] 32)).alloc (.cells #[.slice none 0 0, .slice none 0 0, .slice none 0 0, .int .i64 0, .int .i64 0] 34)) (w.heap.size + 1) 32 #[.slice An n.length cn] := (show Blk ((w.alloc (.cells #[.slice Ak by_.length ck] 32)).alloc (.cells #[.slice An n.length cn] 32)) (w.heap.size + 1) 32 #[.slice An n.length cn] from by have := Blk.new (w.alloc (.cells #[.slice Ak by_.length ck] 32)) 32 #[.slice An n.length cn]; rwa [World.size_alloc] at this).alloc _
 have hBR : Blk (((w.alloc (.cells #[.slice Ak by_.length ck] 32)).alloc (.cells #[.slice An n.length cn] 32)).alloc (.cells #[.slice none 0 0, .slice none 0 0, .slice none 0 0, .int .i64 0, .int .i64 0] 34)) (w.heap.size + 1 + 1) 34 #[.slice none 0 0, .slice none 0 0, .slice none 0 0, .int .i64 0, .int .i64 0] := by have := Blk.new ((w.alloc (.cells #[.slice Ak by_.length ck] 32)).alloc (.cells #[.slice An n.length cn] 32)) 34 #[.slice none 0 0, .slice none 0 0, .slice none 0 0, .int .i64 0, .int .i64 0]; rwa [World.size_alloc, World.size_alloc] at this
 have hvb : Below w.heap.size w (((w.alloc (.cells #[.slice Ak by_.length ck] 32)).alloc (.cells #[.slice An n.length cn] 32)).alloc (.cells #[.slice none 0 0, .slice none 0 0, .slice none 0 0, .int .i64 0, .int .i64 0] 34)) := b_10
 have zb : w.heap.size + 1 + 1 < (((w.alloc (.cells #[.slice Ak by_.length ck] 32)).alloc (.cells #[.slice An n.length cn] 32)).alloc (.cells #[.slice none 0 0, .slice none 0 0, .slice none 0 0, .int .i64 0, .int .i64 0] 34)).heap.size := by simp only [World.size_alloc]; omega
 go_enter Tryz.func34, Tryz.ntmps34
 go_wp2_with fail
 generalize (((w.alloc (.cells #[.slice Ak by_.length ck] 32)).alloc (.cells #[.slice An n.length cn] 32)).alloc (.cells #[.slice none 0 0, .slice none 0 0, .slice none 0 0, .int .i64 0, .int .i64 0] 34)) = WX at hBK hBN hBR hvb zb ⊢
 have HB : Hid (∀ W, Below WX.heap.size WX W → Blk W (w.heap.size) 32 #[.slice Ak by_.length ck] ∧ Blk W (w.heap.size + 1) 32 #[.slice An n.length cn] ∧ Blk W (w.heap.size + 1 + 1) 34 #[.slice none 0 0, .slice none 0 0, .slice none 0 0, .int .i64 0, .int .i64 0]) := fun W hW => ⟨hBK.below hW b_37, hBN.below hW b_37, hBR.below hW zb⟩
 clear hBK hBN hBR
 refine (C_impl_SecretOf _ _ l _ by_ (Ty.rd_below hvb h0) (Ty.rd_below hvb h1) s0 s1).mono ?_
 rintro e w1 ⟨rfl, hb1⟩
 have hw1 : Below w.heap.size w w1 := bel_trans hvb hb1
 obtain ⟨hK1, hN1, hR1⟩ := HB.out _ (hb1)
 obtain ⟨kK_1_0, -, zK_1⟩ := bk1 hK1
 obtain ⟨kN_1_0, -, zN_1⟩ := bk1 hN1
 go_wp2_with fail
 refine (C_impl_SignDataB _ _ _ (swkD by_ n b till) (rd_Data_mk (x := swkD by_ n b till) (Ty.rd_below hw1 h2) (Ty.rd_below hw1 h3) (Ty.rd_below hw1 h1) i4 (by show _ ≤ (0 : Int) ∧ (0 : Int) ≤ _; decide)) hsb hbk).mono ?_
 rw [← HX.out]
 rintro e w2 ⟨csx, fpx, rfl, howx, hfrx, hb2⟩
 obtain ⟨Ad0, cd0, Ad1, cd1, Ad2, cd2, rfl⟩ := ow_Data howx
 have hx2 : Below WX.heap.size WX w2 := bel_trans hb1 hb2
 have hw2 : Below w.heap.size w w2 := bel_trans hvb hx2
 have hs1 := hb1.size
 have hs2 := hb2.size
 clear kK_1_0 kN_1_0
 obtain ⟨hK2, hN2, hR2⟩ := HB.out _ (hx2)
 obtain ⟨kR_2_0, kR_2_1, kR_2_2, kR_2_3, kR_2_4, fR_2_0, fR_2_1, fR_2_2, fR_2_3, fR_2_4, zR_2⟩ := bk5 hR2
 by_cases hz : f_SecretOf l by_ = 0
 ·have q0 : (f_SecretOf l by_ == 0) = true := by simp [hz]
  have HFF : Hid (F1 = false) := by show _ = _; rw [HF1.out, hz]; rfl
  clear hz
  go_wp2
  refine bodyPost_ret (v := .tuple #[.agg #[.slice none 0 0, .slice none 0 0, .slice none 0 0, .int .i64 0, .int .i64 0], .bool false]) (by simp [results, Tryz.results34, go_sem, kR_2_0, fR_2_0, kR_2_1, fR_2_1, kR_2_2, fR_2_2, kR_2_3, fR_2_3, kR_2_4, fR_2_4, zR_2]) rfl ?_
  rw [HNO.out HFF.out, HFF.out]
  exact ⟨_, _, rfl, ow_zeroData _, fr_zero _ _, b_10⟩
 have q0 : (f_SecretOf l by_ == 0) = false := by simp [hz]
 have HZ : Hid (decide (f_SecretOf l by_ = 0) = false) := by show _ = _; simp [hz]
 clear hz
 go_wp2_with fail
 refine (C_impl_ValidDataG _ _ X (Ty.rd_below b_10 (Ty.ow_rd howx))).mono ?_
 rintro e w3 ⟨rfl, hb3⟩
 have hz3 := hb3.size
 simp only [World.size_alloc] at hz3
 have hx3 : Below WX.heap.size WX w3 := bel_trans (bel_alloc hx2 _) hb3
 have hw3 : Below w.heap.size w w3 := bel_trans hvb hx3
 clear kR_2_0 fR_2_0 kR_2_1 fR_2_1 kR_2_2 fR_2_2 kR_2_3 fR_2_3 kR_2_4 fR_2_4
 obtain ⟨hK3, hN3, hR3⟩ := HB.out _ (hx3)
 have hX3 : Blk w3 w2.heap.size 34 #[.slice Ad0 (List.length X.1) cd0, .slice Ad1 (List.length X.2.1) cd1, .slice Ad2 (List.length X.2.2.1) cd2, .int .i64 X.2.2.2.1, .int .i64 X.2.2.2.2] := (Blk.new w2 34 #[.slice Ad0 (List.length X.1) cd0, .slice Ad1 (List.length X.2.1) cd1, .slice Ad2 (List.length X.2.2.1) cd2, .int .i64 X.2.2.2.1, .int .i64 X.2.2.2.2]).below hb3 b_30
 obtain ⟨kR_3_0, kR_3_1, kR_3_2, kR_3_3, kR_3_4, fR_3_0, fR_3_1, fR_3_2, fR_3_3, fR_3_4, zR_3⟩ := bk5 hR3
 obtain ⟨kX_3_0, kX_3_1, kX_3_2, kX_3_3, kX_3_4, fX_3_0, fX_3_1, fX_3_2, fX_3_3, fX_3_4, zX_3⟩ := bk5 hX3
 cases q1 : f_ValidData X
 ·have HFF : Hid (F1 = false) := by show _ = _; rw [HF1.out, HZ.out, q1]; rfl
  clear q1
  go_wp2
  refine bodyPost_ret (v := .tuple #[.agg #[.slice none 0 0, .slice none 0 0, .slice none 0 0, .int .i64 0, .int .i64 0], .bool false]) (by simp [results, Tryz.results34, go_sem, kR_3_0, fR_3_0, kR_3_1, fR_3_1, kR_3_2, fR_3_2, kR_3_3, fR_3_3, kR_3_4, fR_3_4, kX_3_0, fX_3_0, kX_3_1, fX_3_1, kX_3_2, fX_3_2, kX_3_3, fX_3_3, kX_3_4, fX_3_4, zR_3, zX_3]) rfl ?_
  rw [HNO.out HFF.out, HFF.out]
  exact ⟨_, _, rfl, ow_zeroData _, fr_zero _ _, b_10⟩
 ·have HFF : Hid (F1 = true) := by show _ = _; rw [HF1.out, HZ.out, q1]; rfl
  clear q1
  go_wp2
  refine bodyPost_ret (v := .tuple #[.agg #[.slice Ad0 (List.length X.1) cd0, .slice Ad1 (List.length X.2.1) cd1, .slice Ad2 (List.length X.2.2.1) cd2, .int .i64 X.2.2.2.1, .int .i64 X.2.2.2.2], .bool true]) (by simp [results, Tryz.results34, go_sem, kR_3_0, fR_3_0, kR_3_1, fR_3_1, kR_3_2, fR_3_2, kR_3_3, fR_3_3, kR_3_4, fR_3_4, kX_3_0, fX_3_0, kX_3_1, fX_3_1, kX_3_2, fX_3_2, kX_3_3, fX_3_3, kX_3_4, fX_3_4, zR_3, zX_3]) rfl ?_
  rw [HYES.out HFF.out, HFF.out]
  exact ⟨_, fpx, rfl, Ty.ow_keep (by intro b hb'; have hb'' := (hfrx).2 b hb'; (try simp only [szz] at hb''); repeat (first | (with_reducible rfl) | (rw [Below.heap_setCell _ _ _ _ b_33]) | (rw [Below.heap_alloc _ _ _ b_23]) | (rw [hb3.block _ b_32]))) howx, hfrx.mono (by have := hw1.size; omega) b_32, b_10⟩
set_option maxRecDepth 100000 in
set_option maxHeartbeats 4000000 in
theorem C_spec_SignWithKeyB (w : World) (v0 : Value) (l : List (Ty.D tKey)) (cs1 : List Value) (by_ : List (List UInt8)) (cs2 : List Value) (n : List (List UInt8)) (v3 : Value) (b : List UInt8) (till : Int) (h0 : (Ty.sl tKey).rd w [v0] l) (h1 : (Ty.sl .str).rd w cs1 by_) (h2 : (Ty.sl .str).rd w cs2 n) (h3 : (Ty.sl .byte).rd w [v3] b) (s0 : Ty.bulk (.sl tKey) l ≤ 1048576) (s1 : Ty.bulk (.sl .str) by_ ≤ 1048576) (s2 : Ty.bulk (.sl .str) n ≤ 1048576) (s3 : Ty.bulk (.sl .byte) b ≤ 1048576) (i4 : -9223372036854775808 ≤ till ∧ till ≤ 9223372036854775807) :
  Calls Tryz.prog 36 #[v0, .agg cs1.toArray, .agg cs2.toArray, v3, .int .i64 till] w (RetAgg2 w tData (f0_SignWithKey l by_ n b till) (.bool (f1_SignWithKey l by_ n b till))) := by
 obtain ⟨Ak, ck, rfl⟩ := Ty.rd_slv h1
 obtain ⟨An, cn, rfl⟩ := Ty.rd_slv h2
 obtain ⟨Ab, cb, rfl, _, _, _⟩ := Ty.rd_sl h3
 have hsb := secret_bd by_ h0
 have hbk : Ty.bulk tData (swkD by_ n b till) ≤ 4000000 := by rw [swk_bulk]; omega
 have hX : swkX l by_ n b till = f_SignData (f_SecretOf l by_) (swkD by_ n b till) := rfl
 have hF1 : f1_SignWithKey l by_ n b till = (!(decide (f_SecretOf l by_ = 0)) && f_ValidData (swkX l by_ n b till)) := rfl
 have HNO := Lib.hid (fun h => swk_no (l := l) (by_ := by_) (n := n) (b := b) (till := till) h)
 have HYES := Lib.hid (fun h => swk_yes (l := l) (by_ := by_) (n := n) (b := b) (till := till) h)
 generalize f0_SignWithKey l by_ n b till = F0 at HNO HYES ⊢
 generalize f1_SignWithKey l by_ n b till = F1 at hF1 HNO HYES ⊢
 generalize swkX l by_ n b till = X at hX hF1 HYES
 have HX := Lib.hid hX
 have HF1 := Lib.hid hF1
 clear hX hF1
 have hBK : Blk (((w.alloc (.cells #[.slice Ak by_.length ck] 32)).alloc (.cells #[.slice An n.length cn] 32)).alloc (.cells #[.slice none 0 0, .slice none 0 0, .slice none 0 0, .int .i64 0, .int .i64 0] 34)) (w.heap.size) 32 #[.slice Ak by_.length ck] := ((Blk.new w 32 #[.slice Ak by_.length ck]).alloc _).alloc _
 have hBN : Blk (((w.alloc (.cells #[.slice Ak by_.length ck] 32)).alloc (.cells #[.slice An n.length cn] 32)).alloc (.cells #[.slice none 0 0, .slice none 0 0, .slice none 0 0, .int .i64 0, .int .i64 0] 34)) (w.heap.size + 1) 32 #[.slice An n.length cn] := (show Blk ((w.alloc (.cells #[.slice Ak by_.length ck] 32)).alloc (.cells #[.slice An n.length cn] 32)) (w.heap.size + 1) 32 #[.slice An n.length cn] from by have := Blk.new (w.alloc (.cells #[.slice Ak by_.length ck] 32)) 32 #[.slice An n.length cn]; rwa [World.size_alloc] at this).alloc _
 have hBR : Blk (((w.alloc (.cells #[.slice Ak by_.length ck] 32)).alloc (.cells #[.slice An n.length cn] 32)).alloc (.cells #[.slice none 0 0, .slice none 0 0, .slice none 0 0, .int .i64 0, .int .i64 0] 34)) (w.heap.size + 1 + 1) 34 #[.slice none 0 0, .slice none 0 0, .slice none 0 0, .int .i64 0, .int .i64 0] := by have := Blk.new ((w.alloc (.cells #[.slice Ak by_.length ck] 32)).alloc (.cells #[.slice An n.length cn] 32)) 34 #[.slice none 0 0, .slice none 0 0, .slice none 0 0, .int .i64 0, .int .i64 0]; rwa [World.size_alloc, World.size_alloc] at this
 have hvb : Below w.heap.size w (((w.alloc (.cells #[.slice Ak by_.length ck] 32)).alloc (.cells #[.slice An n.length cn] 32)).alloc (.cells #[.slice none 0 0, .slice none 0 0, .slice none 0 0, .int .i64 0, .int .i64 0] 34)) := b_10
 have zb : w.heap.size + 1 + 1 < (((w.alloc (.cells #[.slice Ak by_.length ck] 32)).alloc (.cells #[.slice An n.length cn] 32)).alloc (.cells #[.slice none 0 0, .slice none 0 0, .slice none 0 0, .int .i64 0, .int .i64 0] 34)).heap.size := by simp only [World.size_alloc]; omega
 go_enter Tryz.func36, Tryz.ntmps36
 go_wp2_with fail
 generalize (((w.alloc (.cells #[.slice Ak by_.length ck] 32)).alloc (.cells #[.slice An n.length cn] 32)).alloc (.cells #[.slice none 0 0, .slice none 0 0, .slice none 0 0, .int .i64 0, .int .i64 0] 34)) = WX at hBK hBN hBR hvb zb ⊢
 have HB : Hid (∀ W, Below WX.heap.size WX W → Blk W (w.heap.size) 32 #[.slice Ak by_.length ck] ∧ Blk W (w.heap.size + 1) 32 #[.slice An n.length cn] ∧ Blk W (w.heap.size + 1 + 1) 34 #[.slice none 0 0, .slice none 0 0, .slice none 0 0, .int .i64 0, .int .i64 0]) := fun W hW => ⟨hBK.below hW b_37, hBN.below hW b_37, hBR.below hW zb⟩
 clear hBK hBN hBR
 have HS : Hid (∀ W, Below WX.heap.size WX W → Below WX.heap.size WX W ∧ W.cell? ⟨w.heap.size, 0, none⟩ = some (.slice Ak by_.length ck) ∧ W.cell? ⟨w.heap.size + 1, 0, none⟩ = some (.slice An n.length cn)) := fun W hW => ⟨hW, (HB.out W hW).1.cell 0, (HB.out W hW).2.1.cell 0⟩
 have hv0 : Below WX.heap.size WX WX := Below.refl _ _
 have zb1 : w.heap.size < WX.heap.size := by omega
 have zb2 : w.heap.size + 1 < WX.heap.size := by omega
 refine wp_region_noPanic ?_
 refine wp_region_held_drew (S := (fun W => Below WX.heap.size WX W ∧ W.cell? ⟨w.heap.size, 0, none⟩ = some (.slice Ak by_.length ck) ∧ W.cell? ⟨w.heap.size + 1, 0, none⟩ = some (.slice An n.length cn))) b_35 ?_ (fun hHeld => ?_)
 ·exact HS.out _ b_4
 refine tkz4 0 1 3 4 ?_
 try simp only [layz]
 refine tkz3 5 6 7 ?_
 try simp only [layz]
 refine rz2 2 9 (fun K hK => ?_) (fun K hK => ?_)
 ·go_simp
  go_at_call 48
  refine (C_spec_SecretOf _ _ l _ by_ (Ty.rd_below b_4 (Ty.rd_below hvb h0)) (Ty.rd_below b_4 (Ty.rd_below hvb h1)) s0 s1).mono ?_
  rintro e w1 ⟨rfl, hb1⟩
  have hx1 : Below WX.heap.size WX w1 := b_4
  refine hK.out _ _ (HS.out _ b_4) (fun hHeld => ?_)
  clear hK K
  try simp only [layz]
  refine rz2 8 9 (fun K hK => ?_) (fun K hK => ?_)
  ·go_simp
   go_at_call 96
   refine (C_spec_SignDataB _ _ _ (swkD by_ n b till) (rd_Data_mk (x := swkD by_ n b till) (Ty.rd_below b_4 (Ty.rd_below hvb h2)) (Ty.rd_below b_4 (Ty.rd_below hvb h3)) (Ty.rd_below b_4 (Ty.rd_below hvb h1)) i4 (by show _ ≤ (0 : Int) ∧ (0 : Int) ≤ _; decide)) hsb hbk).mono ?_
   rw [← HX.out]
   rintro e w2 ⟨csx, fpx, rfl, howx, hfrx, hb2⟩
   obtain ⟨Ad0, cd0, Ad1, cd1, Ad2, cd2, rfl⟩ := ow_Data howx
   have hx2 : Below WX.heap.size WX w2 := b_4
   refine hK.out _ _ (HS.out _ b_4) (fun hHeld => ?_)
   clear hK K
   try simp only [layz]
   have hzs1 := hb1.size
   have hzs2 := hb2.size
   try simp only [World.size_alloc, World.size_drew, size_drewN] at hzs1 hzs2
   refine rz1 9 (fun K hK => ?_)
   go_simp
   refine hK.out _ _ (HS.out _ b_4) (fun hHeld => ?_)
   clear hK K
   try simp only [layz]
   refine rz1 10 (fun K hK => ?_)
   go_simp
   refine hK.out _ _ (HS.out _ b_4) (fun hHeld => ?_)
   clear hK K
   try simp only [layz]
   refine wpAnyH_done b_35 ?_ _
   refine NoPanic.normal ?_
   go_wp2_with fail
   refine (C_spec_SecretOf _ _ l _ by_ (Ty.rd_below b_4 (Ty.rd_below hvb h0)) (Ty.rd_below b_4 (Ty.rd_below hvb h1)) s0 s1).mono ?_
   rintro e w4 ⟨rfl, hb4⟩
   have hz4 := hb4.size
   try simp only [szz] at hz4
   have hx4 : Below WX.heap.size WX w4 := b_4
   have hw4 : Below w.heap.size w w4 := bel_trans hvb hx4
   have hX4 : Blk w4 (w2.heap.size) 34 #[.slice Ad0 (List.length X.1) cd0, .slice Ad1 (List.length X.2.1) cd1, .slice Ad2 (List.length X.2.2.1) cd2, .int .i64 X.2.2.2.1, .int .i64 X.2.2.2.2] := by
    refine Blk.below (w := _) (B := _) ?_ hb4 (by simp only [szz]; omega)
    exact Blk.new _ _ _
   obtain ⟨hK4, hN4, hR4⟩ := HB.out _ (hx4)
   obtain ⟨kR_4_0, kR_4_1, kR_4_2, kR_4_3, kR_4_4, fR_4_0, fR_4_1, fR_4_2, fR_4_3, fR_4_4, zR_4⟩ := bk5 hR4
   obtain ⟨kX_4_0, kX_4_1, kX_4_2, kX_4_3, kX_4_4, fX_4_0, fX_4_1, fX_4_2, fX_4_3, fX_4_4, zX_4⟩ := bk5 hX4
   by_cases hz : f_SecretOf l by_ = 0
   ·have q0 : (f_SecretOf l by_ == 0) = true := by simp [hz]
    have HFF : Hid (F1 = false) := by show _ = _; rw [HF1.out, hz]; rfl
    clear hz
    go_wp2
    refine bodyPost_ret (v := .tuple #[.agg #[.slice none 0 0, .slice none 0 0, .slice none 0 0, .int .i64 0, .int .i64 0], .bool false]) b_15 rfl ?_
    rw [HNO.out HFF.out, HFF.out]
    exact ⟨_, _, rfl, ow_zeroData _, fr_zero _ _, b_4⟩
   have q0 : (f_SecretOf l by_ == 0) = false := by simp [hz]
   have HZ : Hid (decide (f_SecretOf l by_ = 0) = false) := by show _ = _; simp [hz]
   clear hz
   go_wp2_with fail
   refine (C_spec_ValidDataG _ _ X (Ty.rd_below hb4 (Ty.ow_rd (Ty.ow_keep b_8 howx)))).mono ?_
   rintro e w5 ⟨rfl, hb5⟩
   have hz5 := hb5.size
   have hx5 : Below WX.heap.size WX w5 := bel_trans hx4 hb5
   have hw5 : Below w.heap.size w w5 := bel_trans hvb hx5
   clear kR_4_0 fR_4_0 kR_4_1 fR_4_1 kR_4_2 fR_4_2 kR_4_3 fR_4_3 kR_4_4 fR_4_4 kX_4_0 fX_4_0 kX_4_1 fX_4_1 kX_4_2 fX_4_2 kX_4_3 fX_4_3 kX_4_4 fX_4_4
   obtain ⟨hK5, hN5, hR5⟩ := HB.out _ (hx5)
   have hX5 : Blk w5 (w2.heap.size) 34 #[.slice Ad0 (List.length X.1) cd0, .slice Ad1 (List.length X.2.1) cd1, .slice Ad2 (List.length X.2.2.1) cd2, .int .i64 X.2.2.2.1, .int .i64 X.2.2.2.2] := hX4.below hb5 (hX4.lt)
   obtain ⟨kR_5_0, kR_5_1, kR_5_2, kR_5_3, kR_5_4, fR_5_0, fR_5_1, fR_5_2, fR_5_3, fR_5_4, zR_5⟩ := bk5 hR5
   obtain ⟨kX_5_0, kX_5_1, kX_5_2, kX_5_3, kX_5_4, fX_5_0, fX_5_1, fX_5_2, fX_5_3, fX_5_4, zX_5⟩ := bk5 hX5
   cases q1 : f_ValidData X
   ·have HFF : Hid (F1 = false) := by show _ = _; rw [HF1.out, HZ.out, q1]; rfl
    clear q1
    go_wp2
    refine bodyPost_ret (v := .tuple #[.agg #[.slice none 0 0, .slice none 0 0, .slice none 0 0, .int .i64 0, .int .i64 0], .bool false]) b_16 rfl ?_
    rw [HNO.out HFF.out, HFF.out]
    exact ⟨_, _, rfl, ow_zeroData _, fr_zero _ _, b_4⟩
   ·have HFF : Hid (F1 = true) := by show _ = _; rw [HF1.out, HZ.out, q1]; rfl
    clear q1
    go_wp2
    refine bodyPost_ret (v := .tuple #[.agg #[.slice Ad0 (List.length X.1) cd0, .slice Ad1 (List.length X.2.1) cd1, .slice Ad2 (List.length X.2.2.1) cd2, .int .i64 X.2.2.2.1, .int .i64 X.2.2.2.2], .bool true]) b_16 rfl ?_
    rw [HYES.out HFF.out, HFF.out]
    exact ⟨_, fpx, rfl, Ty.ow_keep b_2 howx, hfrx.mono (by (try simp only [World.size_alloc, World.size_drew, size_drewN] at *); omega) b_32, b_4⟩
  ·go_simp
   refine hK.out _ _ (HS.out _ b_4) (fun hHeld => ?_)
   clear hK K
   try simp only [layz]
   refine rz1 8 (fun K hK => ?_)
   go_simp
   go_at_call 96
   refine (C_spec_SignDataB _ _ _ (swkD by_ n b till) (rd_Data_mk (x := swkD by_ n b till) (Ty.rd_below b_4 (Ty.rd_below hvb h2)) (Ty.rd_below b_4 (Ty.rd_below hvb h3)) (Ty.rd_below b_4 (Ty.rd_below hvb h1)) i4 (by show _ ≤ (0 : Int) ∧ (0 : Int) ≤ _; decide)) hsb hbk).mono ?_
   rw [← HX.out]
   rintro e w2 ⟨csx, fpx, rfl, howx, hfrx, hb2⟩
   obtain ⟨Ad0, cd0, Ad1, cd1, Ad2, cd2, rfl⟩ := ow_Data howx
   have hx2 : Below WX.heap.size WX w2 := b_4
   refine hK.out _ _ (HS.out _ b_4) (fun hHeld => ?_)
   clear hK K
   try simp only [layz]
   have hzs1 := hb1.size
   have hzs2 := hb2.size
   try simp only [World.size_alloc, World.size_drew, size_drewN] at hzs1 hzs2
   have hG2 : Blk w2 (w1.heap.size) 34 #[.slice none 0 0, .slice none 0 0, .slice none 0 0, .int .i64 0, .int .i64 0] := by
    first
     | exact (Blk.new (w1) _ _).below hb2 b_22
     | exact (Blk.drew (Blk.new (w1) _ _)).below hb2 b_22
     | exact ((Blk.drew (Blk.new (w1) _ _)).below hb1 b_22).below hb2 b_21
     | exact ((Blk.new (w1) _ _).below hb1 b_22).below hb2 b_21
   obtain ⟨kG_2_0, kG_2_1, kG_2_2, kG_2_3, kG_2_4, fG_2_0, fG_2_1, fG_2_2, fG_2_3, fG_2_4, zG_2⟩ := bk5 hG2
   refine rz1 10 (fun K hK => ?_)
   go_simp
   refine hK.out _ _ (HS.out _ b_4) (fun hHeld => ?_)
   clear hK K
   try simp only [layz]
   clear kG_2_0 fG_2_0 kG_2_1 fG_2_1 kG_2_2 fG_2_2 kG_2_3 fG_2_3 kG_2_4 fG_2_4
   refine wpAnyH_done b_35 ?_ _
   refine NoPanic.normal ?_
   go_wp2_with fail
   refine (C_spec_SecretOf _ _ l _ by_ (Ty.rd_below b_4 (Ty.rd_below hvb h0)) (Ty.rd_below b_4 (Ty.rd_below hvb h1)) s0 s1).mono ?_
   rintro e w4 ⟨rfl, hb4⟩
   have hz4 := hb4.size
   try simp only [szz] at hz4
   have hx4 : Below WX.heap.size WX w4 := b_4
   have hw4 : Below w.heap.size w w4 := bel_trans hvb hx4
   have hX4 : Blk w4 (w1.heap.size) 34 #[.slice Ad0 (List.length X.1) cd0, .slice Ad1 (List.length X.2.1) cd1, .slice Ad2 (List.length X.2.2.1) cd2, .int .i64 X.2.2.2.1, .int .i64 X.2.2.2.2] := by
    refine Blk.below (w := _) (B := _) ?_ hb4 (by simp only [szz]; omega)
    exact ((((hG2.set_ 0 _).set_ 1 _).set_ 2 _).set_ 3 _).set_ 4 _
   obtain ⟨hK4, hN4, hR4⟩ := HB.out _ (hx4)
   obtain ⟨kR_4_0, kR_4_1, kR_4_2, kR_4_3, kR_4_4, fR_4_0, fR_4_1, fR_4_2, fR_4_3, fR_4_4, zR_4⟩ := bk5 hR4
   obtain ⟨kX_4_0, kX_4_1, kX_4_2, kX_4_3, kX_4_4, fX_4_0, fX_4_1, fX_4_2, fX_4_3, fX_4_4, zX_4⟩ := bk5 hX4
   by_cases hz : f_SecretOf l by_ = 0
   ·have q0 : (f_SecretOf l by_ == 0) = true := by simp [hz]
    have HFF : Hid (F1 = false) := by show _ = _; rw [HF1.out, hz]; rfl
    clear hz
    go_wp2
    refine bodyPost_ret (v := .tuple #[.agg #[.slice none 0 0, .slice none 0 0, .slice none 0 0, .int .i64 0, .int .i64 0], .bool false]) b_15 rfl ?_
    rw [HNO.out HFF.out, HFF.out]
    exact ⟨_, _, rfl, ow_zeroData _, fr_zero _ _, b_4⟩
   have q0 : (f_SecretOf l by_ == 0) = false := by simp [hz]
   have HZ : Hid (decide (f_SecretOf l by_ = 0) = false) := by show _ = _; simp [hz]
   clear hz
   go_wp2_with fail
   refine (C_spec_ValidDataG _ _ X (Ty.rd_below hb4 (Ty.ow_rd (Ty.ow_keep b_8 howx)))).mono ?_
   rintro e w5 ⟨rfl, hb5⟩
   have hz5 := hb5.size
   have hx5 : Below WX.heap.size WX w5 := bel_trans hx4 hb5
   have hw5 : Below w.heap.size w w5 := bel_trans hvb hx5
   clear kR_4_0 fR_4_0 kR_4_1 fR_4_1 kR_4_2 fR_4_2 kR_4_3 fR_4_3 kR_4_4 fR_4_4 kX_4_0 fX_4_0 kX_4_1 fX_4_1 kX_4_2 fX_4_2 kX_4_3 fX_4_3 kX_4_4 fX_4_4
   obtain ⟨hK5, hN5, hR5⟩ := HB.out _ (hx5)
   have hX5 : Blk w5 (w1.heap.size) 34 #[.slice Ad0 (List.length X.1) cd0, .slice Ad1 (List.length X.2.1) cd1, .slice Ad2 (List.length X.2.2.1) cd2, .int .i64 X.2.2.2.1, .int .i64 X.2.2.2.2] := hX4.below hb5 (hX4.lt)
   obtain ⟨kR_5_0, kR_5_1, kR_5_2, kR_5_3, kR_5_4, fR_5_0, fR_5_1, fR_5_2, fR_5_3, fR_5_4, zR_5⟩ := bk5 hR5
   obtain ⟨kX_5_0, kX_5_1, kX_5_2, kX_5_3, kX_5_4, fX_5_0, fX_5_1, fX_5_2, fX_5_3, fX_5_4, zX_5⟩ := bk5 hX5
   cases q1 : f_ValidData X
   ·have HFF : Hid (F1 = false) := by show _ = _; rw [HF1.out, HZ.out, q1]; rfl
    clear q1
    go_wp2
    refine bodyPost_ret (v := .tuple #[.agg #[.slice none 0 0, .slice none 0 0, .slice none 0 0, .int .i64 0, .int .i64 0], .bool false]) b_16 rfl ?_
    rw [HNO.out HFF.out, HFF.out]
    exact ⟨_, _, rfl, ow_zeroData _, fr_zero _ _, b_4⟩
   ·have HFF : Hid (F1 = true) := by show _ = _; rw [HF1.out, HZ.out, q1]; rfl
    clear q1
    go_wp2
    refine bodyPost_ret (v := .tuple #[.agg #[.slice Ad0 (List.length X.1) cd0, .slice Ad1 (List.length X.2.1) cd1, .slice Ad2 (List.length X.2.2.1) cd2, .int .i64 X.2.2.2.1, .int .i64 X.2.2.2.2], .bool true]) b_16 rfl ?_
    rw [HYES.out HFF.out, HFF.out]
    exact ⟨_, fpx, rfl, Ty.ow_keep b_2 howx, hfrx.mono (by (try simp only [World.size_alloc, World.size_drew, size_drewN] at *); omega) b_32, b_4⟩
 ·go_simp
  refine hK.out _ _ (HS.out _ b_4) (fun hHeld => ?_)
  clear hK K
  try simp only [layz]
  refine rz1 2 (fun K hK => ?_)
  go_simp
  go_at_call 48
  refine (C_spec_SecretOf _ _ l _ by_ (Ty.rd_below b_4 (Ty.rd_below hvb h0)) (Ty.rd_below b_4 (Ty.rd_below hvb h1)) s0 s1).mono ?_
  rintro e w1 ⟨rfl, hb1⟩
  have hx1 : Below WX.heap.size WX w1 := b_4
  refine hK.out _ _ (HS.out _ b_4) (fun hHeld => ?_)
  clear hK K
  try simp only [layz]
  refine rz1 8 (fun K hK => ?_)
  go_simp
  go_at_call 96
  refine (C_spec_SignDataB _ _ _ (swkD by_ n b till) (rd_Data_mk (x := swkD by_ n b till) (Ty.rd_below b_4 (Ty.rd_below hvb h2)) (Ty.rd_below b_4 (Ty.rd_below hvb h3)) (Ty.rd_below b_4 (Ty.rd_below hvb h1)) i4 (by show _ ≤ (0 : Int) ∧ (0 : Int) ≤ _; decide)) hsb hbk).mono ?_
  rw [← HX.out]
  rintro e w2 ⟨csx, fpx, rfl, howx, hfrx, hb2⟩
  obtain ⟨Ad0, cd0, Ad1, cd1, Ad2, cd2, rfl⟩ := ow_Data howx
  have hx2 : Below WX.heap.size WX w2 := b_4
  refine hK.out _ _ (HS.out _ b_4) (fun hHeld => ?_)
  clear hK K
  try simp only [layz]
  have hzs1 := hb1.size
  have hzs2 := hb2.size
  try simp only [World.size_alloc, World.size_drew, size_drewN] at hzs1 hzs2
  have hG2 : Blk w2 (WX.heap.size) 34 #[.slice none 0 0, .slice none 0 0, .slice none 0 0, .int .i64 0, .int .i64 0] := by
   first
    | exact (Blk.new (WX) _ _).below hb2 b_22
    | exact (Blk.drew (Blk.new (WX) _ _)).below hb2 b_22
    | exact ((Blk.drew (Blk.new (WX) _ _)).below hb1 b_22).below hb2 b_21
    | exact ((Blk.new (WX) _ _).below hb1 b_22).below hb2 b_21
  obtain ⟨kG_2_0, kG_2_1, kG_2_2, kG_2_3, kG_2_4, fG_2_0, fG_2_1, fG_2_2, fG_2_3, fG_2_4, zG_2⟩ := bk5 hG2
  refine rz1 10 (fun K hK => ?_)
  go_simp
  refine hK.out _ _ (HS.out _ b_4) (fun hHeld => ?_)
  clear hK K
  try simp only [layz]
  clear kG_2_0 fG_2_0 kG_2_1 fG_2_1 kG_2_2 fG_2_2 kG_2_3 fG_2_3 kG_2_4 fG_2_4
  refine wpAnyH_done b_35 ?_ _
  refine NoPanic.normal ?_
  go_wp2_with fail
  refine (C_spec_SecretOf _ _ l _ by_ (Ty.rd_below b_4 (Ty.rd_below hvb h0)) (Ty.rd_below b_4 (Ty.rd_below hvb h1)) s0 s1).mono ?_
  rintro e w4 ⟨rfl, hb4⟩
  have hz4 := hb4.size
  try simp only [szz] at hz4
  have hx4 : Below WX.heap.size WX w4 := b_4
  have hw4 : Below w.heap.size w w4 := bel_trans hvb hx4
  have hX4 : Blk w4 (WX.heap.size) 34 #[.slice Ad0 (List.length X.1) cd0, .slice Ad1 (List.length X.2.1) cd1, .slice Ad2 (List.length X.2.2.1) cd2, .int .i64 X.2.2.2.1, .int .i64 X.2.2.2.2] := by
   refine Blk.below (w := _) (B := _) ?_ hb4 (by simp only [szz]; omega)
   exact ((((hG2.set_ 0 _).set_ 1 _).set_ 2 _).set_ 3 _).set_ 4 _
  obtain ⟨hK4, hN4, hR4⟩ := HB.out _ (hx4)
  obtain ⟨kR_4_0, kR_4_1, kR_4_2, kR_4_3, kR_4_4, fR_4_0, fR_4_1, fR_4_2, fR_4_3, fR_4_4, zR_4⟩ := bk5 hR4
  obtain ⟨kX_4_0, kX_4_1, kX_4_2, kX_4_3, kX_4_4, fX_4_0, fX_4_1, fX_4_2, fX_4_3, fX_4_4, zX_4⟩ := bk5 hX4
  by_cases hz : f_SecretOf l by_ = 0
  ·have q0 : (f_SecretOf l by_ == 0) = true := by simp [hz]
   have HFF : Hid (F1 = false) := by show _ = _; rw [HF1.out, hz]; rfl
   clear hz
   go_wp2
   refine bodyPost_ret (v := .tuple #[.agg #[.slice none 0 0, .slice none 0 0, .slice none 0 0, .int .i64 0, .int .i64 0], .bool false]) b_15 rfl ?_
   rw [HNO.out HFF.out, HFF.out]
   exact ⟨_, _, rfl, ow_zeroData _, fr_zero _ _, b_4⟩
  have q0 : (f_SecretOf l by_ == 0) = false := by simp [hz]
  have HZ : Hid (decide (f_SecretOf l by_ = 0) = false) := by show _ = _; simp [hz]
  clear hz
  go_wp2_with fail
  refine (C_spec_ValidDataG _ _ X (Ty.rd_below hb4 (Ty.ow_rd (Ty.ow_keep b_8 howx)))).mono ?_
  rintro e w5 ⟨rfl, hb5⟩
  have hz5 := hb5.size
  have hx5 : Below WX.heap.size WX w5 := bel_trans hx4 hb5
  have hw5 : Below w.heap.size w w5 := bel_trans hvb hx5
  clear kR_4_0 fR_4_0 kR_4_1 fR_4_1 kR_4_2 fR_4_2 kR_4_3 fR_4_3 kR_4_4 fR_4_4 kX_4_0 fX_4_0 kX_4_1 fX_4_1 kX_4_2 fX_4_2 kX_4_3 fX_4_3 kX_4_4 fX_4_4
  obtain ⟨hK5, hN5, hR5⟩ := HB.out _ (hx5)
  have hX5 : Blk w5 (WX.heap.size) 34 #[.slice Ad0 (List.length X.1) cd0, .slice Ad1 (List.length X.2.1) cd1, .slice Ad2 (List.length X.2.2.1) cd2, .int .i64 X.2.2.2.1, .int .i64 X.2.2.2.2] := hX4.below hb5 (hX4.lt)
  obtain ⟨kR_5_0, kR_5_1, kR_5_2, kR_5_3, kR_5_4, fR_5_0, fR_5_1, fR_5_2, fR_5_3, fR_5_4, zR_5⟩ := bk5 hR5
  obtain ⟨kX_5_0, kX_5_1, kX_5_2, kX_5_3, kX_5_4, fX_5_0, fX_5_1, fX_5_2, fX_5_3, fX_5_4, zX_5⟩ := bk5 hX5
  cases q1 : f_ValidData X
  ·have HFF : Hid (F1 = false) := by show _ = _; rw [HF1.out, HZ.out, q1]; rfl
   clear q1
   go_wp2
   refine bodyPost_ret (v := .tuple #[.agg #[.slice none 0 0, .slice none 0 0, .slice none 0 0, .int .i64 0, .int .i64 0], .bool false]) b_16 rfl ?_
   rw [HNO.out HFF.out, HFF.out]
   exact ⟨_, _, rfl, ow_zeroData _, fr_zero _ _, b_4⟩
  ·have HFF : Hid (F1 = true) := by show _ = _; rw [HF1.out, HZ.out, q1]; rfl
   clear q1
   go_wp2
   refine bodyPost_ret (v := .tuple #[.agg #[.slice Ad0 (List.length X.1) cd0, .slice Ad1 (List.length X.2.1) cd1, .slice Ad2 (List.length X.2.2.1) cd2, .int .i64 X.2.2.2.1, .int .i64 X.2.2.2.2], .bool true]) b_16 rfl ?_
   rw [HYES.out HFF.out, HFF.out]
   exact ⟨_, fpx, rfl, Ty.ow_keep b_2 howx, hfrx.mono (by (try simp only [World.size_alloc, World.size_drew, size_drewN] at *); omega) b_32, b_4⟩
end Go.Proofs.YtldgbnlcnlfmeaaGreat
