/- Texts of this claim, merged by a program: Sgd. -/
import Derived.Test.YtldgbnlcnlfmeaaQhP
import Derived.Test.YtldgbnlcnlfmeaaQh5
import Derived.Test.YtldgbnlcnlfmeaaQh6
namespace Go.Proofs.Ytldgbnlcnlfmeaa
open Go.RowKit
set_option linter.unusedVariables false
set_option linter.unusedSimpArgs false
def signed (x : tData.D) (m : Int) : tData.D := (x.1, x.2.1, x.2.2.1, x.2.2.2.1, m)
def f_SignData (a : Int) (x : tData.D) : tData.D := signed x (mac a (f_SignedPortion x))
theorem mac_bd (a : Int) (l : List Int) : -9223372036854775808 ≤ mac a l ∧ mac a l ≤ 9223372036854775807 := by
 have := digest_le (a :: (l ++ [a]))
 unfold mac; omega
theorem ow_Data_parts {w : World} {cs : List Value} {x : tData.D} {fp : List Nat} (h : tData.ow w cs x fp) : ∃ (A0 : Option Addr) (c0 : Nat) (A1 : Option Addr) (c1 : Nat) (A2 : Option Addr) (c2 : Nat) (f0 f1 f2 : List Nat),
  cs = [.slice A0 (List.length x.1) c0, .slice A1 (List.length x.2.1) c1, .slice A2 (List.length x.2.2.1) c2, .int .i64 x.2.2.2.1, .int .i64 x.2.2.2.2] ∧ fp = (f0 ++ (f1 ++ (f2 ++ ([] ++ [])))) ∧
  (Ty.sl .str).ow w [.slice A0 (List.length x.1) c0] x.1 f0 ∧ (Ty.sl .byte).ow w [.slice A1 (List.length x.2.1) c1] x.2.1 f1 ∧ (Ty.sl .str).ow w [.slice A2 (List.length x.2.2.1) c2] x.2.2.1 f2 ∧
  (-9223372036854775808 ≤ x.2.2.2.1 ∧ x.2.2.2.1 ≤ 9223372036854775807) ∧ (-9223372036854775808 ≤ x.2.2.2.2 ∧ x.2.2.2.2 ≤ 9223372036854775807) := by
 obtain ⟨p0, r0, f0, q0, rfl, rfl, h0, p1, r1, f1, q1, rfl, rfl, h1, p2, r2, f2, q2, rfl, rfl, h2, p3, r3, f3, q3, rfl, rfl, ⟨⟨rfl, b3⟩, rfl⟩, ⟨⟨rfl, b4⟩, rfl⟩⟩ := h
 obtain ⟨A0, c0, rfl⟩ := Ty.ow_slv h0
 obtain ⟨A1, c1, rfl⟩ := Ty.ow_slv h1
 obtain ⟨A2, c2, rfl⟩ := Ty.ow_slv h2
 exact ⟨A0, c0, A1, c1, A2, c2, f0, f1, f2, rfl, rfl, h0, h1, h2, b3, b4⟩
theorem ow_signed {w : World} {x : tData.D} {A0 A1 A2 : Option Addr} {c0 c1 c2 : Nat} {fp : List Nat} {m : Int} (h : tData.ow w [.slice A0 (List.length x.1) c0, .slice A1 (List.length x.2.1) c1, .slice A2 (List.length x.2.2.1) c2, .int .i64 x.2.2.2.1, .int .i64 x.2.2.2.2] x fp) (hm : -9223372036854775808 ≤ m ∧ m ≤ 9223372036854775807) :
  tData.ow w [.slice A0 (List.length x.1) c0, .slice A1 (List.length x.2.1) c1, .slice A2 (List.length x.2.2.1) c2, .int .i64 x.2.2.2.1, .int .i64 m] (signed x m) fp := by
 obtain ⟨B0, d0, B1, d1, B2, d2, f0, f1, f2, he, rfl, h0, h1, h2, b3, b4⟩ := ow_Data_parts h
 simp only [List.cons.injEq, Value.slice.injEq, and_true, true_and] at he
 obtain ⟨⟨rfl, rfl⟩, ⟨rfl, rfl⟩, rfl, rfl⟩ := he
 exact ow_Data_mk (x := signed x m) h0 h1 h2 b3 hm
set_option maxRecDepth 100000 in
set_option maxHeartbeats 2000000 in
theorem C_impl_SignDataB (w : World) (a : Int) (cs : List Value) (x : tData.D) (h : tData.rd w cs x) (i0 : -9223372036854775808 ≤ a ∧ a ≤ 9223372036854775807) (s0 : Ty.bulk tData x ≤ 4000000) :
  Calls Try.prog 55 #[.int .i64 a, .agg cs.toArray] w (RetAgg w tData (f_SignData a x)) := by
 have h' := h
 obtain ⟨As0, cs0, As1, cs1, As2, cs2, rfl, sg0, sg1, sg2, sg3, sg4⟩ := rd_Data h
 have HMB := Lib.hid (mac_bd a (f_SignedPortion x))
 have HLS := Lib.hid (signed_lenB s0)
 have HF := Lib.hid (show f_SignData a x = signed x (mac a (f_SignedPortion x)) from rfl)
 go_enter Try.func55, Try.ntmps55
 go_wp2_with fail
 refine (C_impl_copyData _ _ x (Ty.rd_below b_5 h') b_29).mono ?_
 rintro e w0 ⟨cs0, fp0, rfl, how0, hfr0, hb0⟩
 obtain ⟨Ad0, cd0, Ad1, cd1, Ad2, cd2, rfl⟩ := ow_Data how0
 have hz0 := hb0.size
 simp only [World.size_alloc] at hz0
 have hw0 : Below w.heap.size w w0 := bel_trans b_5 hb0
 have hB0 : Blk w0 (w.heap.size) 46 #[.slice As0 (List.length x.1) cs0, .slice As1 (List.length x.2.1) cs1, .slice As2 (List.length x.2.2.1) cs2, .int .i64 x.2.2.2.1, .int .i64 x.2.2.2.2] := ((Blk.new w 46 #[.slice As0 (List.length x.1) cs0, .slice As1 (List.length x.2.1) cs1, .slice As2 (List.length x.2.2.1) cs2, .int .i64 x.2.2.2.1, .int .i64 x.2.2.2.2]).alloc _).below hb0 b_20
 have hR0 : Blk w0 (w.heap.size + 1) 46 #[.slice none 0 0, .slice none 0 0, .slice none 0 0, .int .i64 0, .int .i64 0] := (show Blk ((w.alloc (.cells #[.slice As0 (List.length x.1) cs0, .slice As1 (List.length x.2.1) cs1, .slice As2 (List.length x.2.2.1) cs2, .int .i64 x.2.2.2.1, .int .i64 x.2.2.2.2] 46)).alloc (.cells #[.slice none 0 0, .slice none 0 0, .slice none 0 0, .int .i64 0, .int .i64 0] 46)) (w.heap.size + 1) 46 #[.slice none 0 0, .slice none 0 0, .slice none 0 0, .int .i64 0, .int .i64 0] from by have := Blk.new (w.alloc (.cells #[.slice As0 (List.length x.1) cs0, .slice As1 (List.length x.2.1) cs1, .slice As2 (List.length x.2.2.1) cs2, .int .i64 x.2.2.2.1, .int .i64 x.2.2.2.2] 46)) 46 #[.slice none 0 0, .slice none 0 0, .slice none 0 0, .int .i64 0, .int .i64 0]; rwa [World.size_alloc] at this).below hb0 b_20
 obtain ⟨kB_0_0, kB_0_1, kB_0_2, kB_0_3, kB_0_4, -, -, -, -, -, zB_0⟩ := bk5 hB0
 go_wp2_with fail
 refine (C_impl_SignedPortionB _ _ x (Ty.rd_below (bel_alloc hw0 _) h') s0).mono ?_
 rintro e w1 ⟨v1, rfl, hr1, hb1⟩
 have hz1 := hb1.size
 simp only [World.size_alloc] at hz1
 have hw1 : Below w.heap.size w w1 := bel_trans (bel_alloc hw0 _) hb1
 have HR1 := Lib.hid (hr1.rd hb1.size)
 clear hr1
 clear kB_0_0 kB_0_1 kB_0_2 kB_0_3 kB_0_4
 have hR1 : Blk w1 (w.heap.size + 1) 46 #[.slice none 0 0, .slice none 0 0, .slice none 0 0, .int .i64 0, .int .i64 0] := (hR0.alloc _).below hb1 b_20
 have hO1 : Blk w1 w0.heap.size 46 #[.slice Ad0 (List.length x.1) cd0, .slice Ad1 (List.length x.2.1) cd1, .slice Ad2 (List.length x.2.2.1) cd2, .int .i64 x.2.2.2.1, .int .i64 x.2.2.2.2] := (Blk.new w0 46 #[.slice Ad0 (List.length x.1) cd0, .slice Ad1 (List.length x.2.1) cd1, .slice Ad2 (List.length x.2.2.1) cd2, .int .i64 x.2.2.2.1, .int .i64 x.2.2.2.2]).below hb1 b_20
 go_wp2_with fail
 refine (C_impl_ComputeMAC _ _ a (f_SignedPortion x) i0 HR1.out (Nat.le_trans HLS.out b_28)).mono ?_
 rintro e w2 ⟨rfl, hb2⟩
 have hz2 := hb2.size
 have hw2 : Below w.heap.size w w2 := bel_trans hw1 hb2
 have hR2 : Blk w2 (w.heap.size + 1) 46 #[.slice none 0 0, .slice none 0 0, .slice none 0 0, .int .i64 0, .int .i64 0] := hR1.below hb2 b_29
 have hO2 : Blk w2 w0.heap.size 46 #[.slice Ad0 (List.length x.1) cd0, .slice Ad1 (List.length x.2.1) cd1, .slice Ad2 (List.length x.2.2.1) cd2, .int .i64 x.2.2.2.1, .int .i64 x.2.2.2.2] := hO1.below hb2 b_29
 obtain ⟨kR_2_0, kR_2_1, kR_2_2, kR_2_3, kR_2_4, fR_2_0, fR_2_1, fR_2_2, fR_2_3, fR_2_4, zR_2⟩ := bk5 hR2
 obtain ⟨kO_2_0, kO_2_1, kO_2_2, kO_2_3, kO_2_4, fO_2_0, fO_2_1, fO_2_2, fO_2_3, fO_2_4, zO_2⟩ := bk5 hO2
 go_wp2
 refine bodyPost_ret (v := .agg #[.slice Ad0 (List.length x.1) cd0, .slice Ad1 (List.length x.2.1) cd1, .slice Ad2 (List.length x.2.2.1) cd2, .int .i64 x.2.2.2.1, .int .i64 (mac a (f_SignedPortion x))]) (by simp [results, Try.results55, go_sem, kR_2_0, fR_2_0, kR_2_1, fR_2_1, kR_2_2, fR_2_2, kR_2_3, fR_2_3, kR_2_4, fR_2_4, kO_2_0, fO_2_0, kO_2_1, fO_2_1, kO_2_2, fO_2_2, kO_2_3, fO_2_3, kO_2_4, fO_2_4]) rfl ?_
 rw [HF.out]
 exact ⟨_, fp0, rfl, ow_signed (Ty.ow_keep b_0 how0) HMB.out, hfr0.mono b_20 b_21, b_5⟩
theorem C_impl_SignData (w : World) (a : Int) (cs : List Value) (x : tData.D) (h : tData.rd w cs x) (i0 : -9223372036854775808 ≤ a ∧ a ≤ 9223372036854775807) (s0 : Ty.bulk tData x ≤ 1048576) :
  Calls Try.prog 55 #[.int .i64 a, .agg cs.toArray] w (RetAgg w tData (f_SignData a x)) := C_impl_SignDataB w a cs x h i0 (Nat.le_trans s0 b_28)
set_option maxRecDepth 100000 in
set_option maxHeartbeats 2000000 in
theorem C_spec_SignDataB (w : World) (a : Int) (cs : List Value) (x : tData.D) (h : tData.rd w cs x) (i0 : -9223372036854775808 ≤ a ∧ a ≤ 9223372036854775807) (s0 : Ty.bulk tData x ≤ 4000000) :
  Calls Try.prog 56 #[.int .i64 a, .agg cs.toArray] w (RetAgg w tData (f_SignData a x)) := by
 have h' := h
 obtain ⟨As0, cs0, As1, cs1, As2, cs2, rfl, sg0, sg1, sg2, sg3, sg4⟩ := rd_Data h
 have HMB := Lib.hid (mac_bd a (f_SignedPortion x))
 have HLS := Lib.hid (signed_lenB s0)
 have HF := Lib.hid (show f_SignData a x = signed x (mac a (f_SignedPortion x)) from rfl)
 go_enter Try.func56, Try.ntmps56
 go_wp2_with fail
 refine (C_spec_l8Copy _ _ x (Ty.rd_below b_5 h') b_29).mono ?_
 rintro e w0 ⟨cs0, fp0, rfl, how0, hfr0, hb0⟩
 obtain ⟨Ad0, cd0, Ad1, cd1, Ad2, cd2, rfl⟩ := ow_Data how0
 have hz0 := hb0.size
 simp only [World.size_alloc] at hz0
 have hw0 : Below w.heap.size w w0 := bel_trans b_5 hb0
 have hB0 : Blk w0 (w.heap.size) 46 #[.slice As0 (List.length x.1) cs0, .slice As1 (List.length x.2.1) cs1, .slice As2 (List.length x.2.2.1) cs2, .int .i64 x.2.2.2.1, .int .i64 x.2.2.2.2] := ((Blk.new w 46 #[.slice As0 (List.length x.1) cs0, .slice As1 (List.length x.2.1) cs1, .slice As2 (List.length x.2.2.1) cs2, .int .i64 x.2.2.2.1, .int .i64 x.2.2.2.2]).alloc _).below hb0 b_20
 have hR0 : Blk w0 (w.heap.size + 1) 46 #[.slice none 0 0, .slice none 0 0, .slice none 0 0, .int .i64 0, .int .i64 0] := (show Blk ((w.alloc (.cells #[.slice As0 (List.length x.1) cs0, .slice As1 (List.length x.2.1) cs1, .slice As2 (List.length x.2.2.1) cs2, .int .i64 x.2.2.2.1, .int .i64 x.2.2.2.2] 46)).alloc (.cells #[.slice none 0 0, .slice none 0 0, .slice none 0 0, .int .i64 0, .int .i64 0] 46)) (w.heap.size + 1) 46 #[.slice none 0 0, .slice none 0 0, .slice none 0 0, .int .i64 0, .int .i64 0] from by have := Blk.new (w.alloc (.cells #[.slice As0 (List.length x.1) cs0, .slice As1 (List.length x.2.1) cs1, .slice As2 (List.length x.2.2.1) cs2, .int .i64 x.2.2.2.1, .int .i64 x.2.2.2.2] 46)) 46 #[.slice none 0 0, .slice none 0 0, .slice none 0 0, .int .i64 0, .int .i64 0]; rwa [World.size_alloc] at this).below hb0 b_20
 obtain ⟨kB_0_0, kB_0_1, kB_0_2, kB_0_3, kB_0_4, -, -, -, -, -, zB_0⟩ := bk5 hB0
 go_wp2_with fail
 refine (C_spec_SignedPortionB _ _ x (Ty.rd_below (bel_alloc hw0 _) h') s0).mono ?_
 rintro e w1 ⟨v1, rfl, hr1, hb1⟩
 have hz1 := hb1.size
 simp only [World.size_alloc] at hz1
 have hw1 : Below w.heap.size w w1 := bel_trans (bel_alloc hw0 _) hb1
 have HR1 := Lib.hid (hr1.rd hb1.size)
 clear hr1
 clear kB_0_0 kB_0_1 kB_0_2 kB_0_3 kB_0_4
 have hR1 : Blk w1 (w.heap.size + 1) 46 #[.slice none 0 0, .slice none 0 0, .slice none 0 0, .int .i64 0, .int .i64 0] := (hR0.alloc _).below hb1 b_20
 have hO1 : Blk w1 w0.heap.size 46 #[.slice Ad0 (List.length x.1) cd0, .slice Ad1 (List.length x.2.1) cd1, .slice Ad2 (List.length x.2.2.1) cd2, .int .i64 x.2.2.2.1, .int .i64 x.2.2.2.2] := (Blk.new w0 46 #[.slice Ad0 (List.length x.1) cd0, .slice Ad1 (List.length x.2.1) cd1, .slice Ad2 (List.length x.2.2.1) cd2, .int .i64 x.2.2.2.1, .int .i64 x.2.2.2.2]).below hb1 b_20
 go_wp2_with fail
 refine (C_spec_ComputeMAC _ _ a (f_SignedPortion x) i0 HR1.out (Nat.le_trans HLS.out b_28)).mono ?_
 rintro e w2 ⟨rfl, hb2⟩
 have hz2 := hb2.size
 have hw2 : Below w.heap.size w w2 := bel_trans hw1 hb2
 have hR2 : Blk w2 (w.heap.size + 1) 46 #[.slice none 0 0, .slice none 0 0, .slice none 0 0, .int .i64 0, .int .i64 0] := hR1.below hb2 b_29
 have hO2 : Blk w2 w0.heap.size 46 #[.slice Ad0 (List.length x.1) cd0, .slice Ad1 (List.length x.2.1) cd1, .slice Ad2 (List.length x.2.2.1) cd2, .int .i64 x.2.2.2.1, .int .i64 x.2.2.2.2] := hO1.below hb2 b_29
 obtain ⟨kR_2_0, kR_2_1, kR_2_2, kR_2_3, kR_2_4, fR_2_0, fR_2_1, fR_2_2, fR_2_3, fR_2_4, zR_2⟩ := bk5 hR2
 obtain ⟨kO_2_0, kO_2_1, kO_2_2, kO_2_3, kO_2_4, fO_2_0, fO_2_1, fO_2_2, fO_2_3, fO_2_4, zO_2⟩ := bk5 hO2
 go_wp2
 refine bodyPost_ret (v := .agg #[.slice Ad0 (List.length x.1) cd0, .slice Ad1 (List.length x.2.1) cd1, .slice Ad2 (List.length x.2.2.1) cd2, .int .i64 x.2.2.2.1, .int .i64 (mac a (f_SignedPortion x))]) (by simp [results, Try.results56, go_sem, kR_2_0, fR_2_0, kR_2_1, fR_2_1, kR_2_2, fR_2_2, kR_2_3, fR_2_3, kR_2_4, fR_2_4, kO_2_0, fO_2_0, kO_2_1, fO_2_1, kO_2_2, fO_2_2, kO_2_3, fO_2_3, kO_2_4, fO_2_4]) rfl ?_
 rw [HF.out]
 exact ⟨_, fp0, rfl, ow_signed (Ty.ow_keep b_0 how0) HMB.out, hfr0.mono b_20 b_21, b_5⟩
theorem C_spec_SignData (w : World) (a : Int) (cs : List Value) (x : tData.D) (h : tData.rd w cs x) (i0 : -9223372036854775808 ≤ a ∧ a ≤ 9223372036854775807) (s0 : Ty.bulk tData x ≤ 1048576) :
  Calls Try.prog 56 #[.int .i64 a, .agg cs.toArray] w (RetAgg w tData (f_SignData a x)) := C_spec_SignDataB w a cs x h i0 (Nat.le_trans s0 b_28)
end Go.Proofs.Ytldgbnlcnlfmeaa
