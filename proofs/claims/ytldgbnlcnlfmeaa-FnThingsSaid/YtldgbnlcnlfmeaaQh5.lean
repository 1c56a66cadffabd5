/- Texts of this claim, merged by a program: Cpd Enc Apn Mac Cat Dat Key Kdg. -/
import Derived.Test.YtldgbnlcnlfmeaaQhP
import Derived.Test.YtldgbnlcnlfmeaaQh2
import Derived.Test.YtldgbnlcnlfmeaaQh1
import Derived.Laws.IdiomStrings
import Derived.Lib.AppendZeros
import Derived.Deep.RegionHeld3
namespace Go.Proofs.Ytldgbnlcnlfmeaa
open Go.RowKit
set_option linter.unusedVariables false
set_option linter.unusedSimpArgs false
theorem data_parts {x : tData.D} {B : Nat} (s : Ty.bulk tData x ≤ B) : x.1.length ≤ B ∧ x.2.1.length ≤ B ∧ x.2.2.1.length ≤ B := by
 have h1 : Ty.bulk (.sl .str) x.1 + (Ty.bulk (.sl .byte) x.2.1 + (Ty.bulk (.sl .str) x.2.2.1 + (0 + 0))) ≤ B := s
 exact ⟨Ty.bulk_len (e := .str) (x := x.1) (n := B) b_29, Ty.bulk_len (e := .byte) (x := x.2.1) (n := B) b_29, Ty.bulk_len (e := .str) (x := x.2.2.1) (n := B) b_29⟩
theorem ow_Data_mk {w : World} {x : tData.D} {A0 A1 A2 : Option Addr} {c0 c1 c2 : Nat} {f0 f1 f2 : List Nat} (h0 : (Ty.sl .str).ow w [.slice A0 (List.length x.1) c0] x.1 f0) (h1 : (Ty.sl .byte).ow w [.slice A1 (List.length x.2.1) c1] x.2.1 f1) (h2 : (Ty.sl .str).ow w [.slice A2 (List.length x.2.2.1) c2] x.2.2.1 f2)
  (b3 : -9223372036854775808 ≤ x.2.2.2.1 ∧ x.2.2.2.1 ≤ 9223372036854775807) (b4 : -9223372036854775808 ≤ x.2.2.2.2 ∧ x.2.2.2.2 ≤ 9223372036854775807) :
  tData.ow w [.slice A0 (List.length x.1) c0, .slice A1 (List.length x.2.1) c1, .slice A2 (List.length x.2.2.1) c2, .int .i64 x.2.2.2.1, .int .i64 x.2.2.2.2] x (f0 ++ (f1 ++ (f2 ++ ([] ++ [])))) :=
 ⟨[_], [_, _, _, _], f0, (f1 ++ (f2 ++ ([] ++ []))), rfl, rfl, h0, ⟨[_], [_, _, _], f1, (f2 ++ ([] ++ [])), rfl, rfl, h1, ⟨[_], [_, _], f2, ([] ++ []), rfl, rfl, h2, ⟨[_], [_], [], [], rfl, rfl, ⟨⟨rfl, b3⟩, rfl⟩, ⟨⟨rfl, b4⟩, rfl⟩⟩⟩⟩⟩
theorem fr3 {lo m1 m2 hi : Nat} {f0 f1 f2 : List Nat} (h0 : FrI lo m1 f0) (h1 : FrI m1 m2 f1) (h2 : FrI m2 hi f2) (l1 : lo ≤ m1) (l2 : m1 ≤ m2) (l3 : m2 ≤ hi) : FrI lo hi (f0 ++ (f1 ++ (f2 ++ ([] ++ [])))) :=
 FrI.app h0 (FrI.app h1 (FrI.app h2 (FrI.nil hi hi) (Nat.le_refl _) l3 (Nat.le_refl _)) (Nat.le_refl _) l2 b_29) (Nat.le_refl _) l1 b_29
set_option maxRecDepth 100000 in
set_option maxHeartbeats 2000000 in
theorem C_impl_copyData (w : World) (cs : List Value) (x : tData.D) (h : tData.rd w cs x) (s0 : Ty.bulk tData x ≤ 1000000000) :
  Calls Try.prog 97 #[.agg cs.toArray] w (RetAgg w tData x) := by
 obtain ⟨As0, cs0, As1, cs1, As2, cs2, rfl, sg0, sg1, sg2, sg3, sg4⟩ := rd_Data h
 obtain ⟨l0, l1, l2⟩ := data_parts s0
 go_enter Try.func97, Try.ntmps97
 go_wp2_with fail
 refine (C_impl_copyName _ _ x.1 (Ty.rd_below b_5 sg0) b_29).mono ?_
 rintro e w0 ⟨cs0, fp0, rfl, how0, hfr0, hb0⟩
 obtain ⟨A0, c0, rfl⟩ := Ty.ow_slv how0
 have hz0 := hb0.size
 simp only [World.size_alloc, World.size_setCell] at hz0
 have hw0 : Below w.heap.size w w0 := bel_trans b_5 hb0
 have hB0 : Blk w0 (w.heap.size) 46 #[.slice As0 (List.length x.1) cs0, .slice As1 (List.length x.2.1) cs1, .slice As2 (List.length x.2.2.1) cs2, .int .i64 x.2.2.2.1, .int .i64 x.2.2.2.2] := ((Blk.new w 46 #[.slice As0 (List.length x.1) cs0, .slice As1 (List.length x.2.1) cs1, .slice As2 (List.length x.2.2.1) cs2, .int .i64 x.2.2.2.1, .int .i64 x.2.2.2.2]).alloc _).below hb0 b_20
 have hR0 : Blk w0 (w.heap.size + 1) 46 #[.slice none 0 0, .slice none 0 0, .slice none 0 0, .int .i64 0, .int .i64 0] := (show Blk ((w.alloc (.cells #[.slice As0 (List.length x.1) cs0, .slice As1 (List.length x.2.1) cs1, .slice As2 (List.length x.2.2.1) cs2, .int .i64 x.2.2.2.1, .int .i64 x.2.2.2.2] 46)).alloc (.cells #[.slice none 0 0, .slice none 0 0, .slice none 0 0, .int .i64 0, .int .i64 0] 46)) (w.heap.size + 1) 46 #[.slice none 0 0, .slice none 0 0, .slice none 0 0, .int .i64 0, .int .i64 0] from by have := Blk.new (w.alloc (.cells #[.slice As0 (List.length x.1) cs0, .slice As1 (List.length x.2.1) cs1, .slice As2 (List.length x.2.2.1) cs2, .int .i64 x.2.2.2.1, .int .i64 x.2.2.2.2] 46)) 46 #[.slice none 0 0, .slice none 0 0, .slice none 0 0, .int .i64 0, .int .i64 0]; rwa [World.size_alloc] at this).below hb0 b_20
 obtain ⟨kB_0_0, kB_0_1, kB_0_2, kB_0_3, kB_0_4, fB_0_0, fB_0_1, fB_0_2, fB_0_3, fB_0_4, zB_0⟩ := bk5 hB0
 obtain ⟨kR_0_0, kR_0_1, kR_0_2, kR_0_3, kR_0_4, fR_0_0, fR_0_1, fR_0_2, fR_0_3, fR_0_4, zR_0⟩ := bk5 hR0
 go_wp2_with fail
 refine (C_slices_Clone_byte _ _ x.2.1 (Ty.rd_below (bel_set hw0 (Nat.le_refl _) _) sg1) b_29).mono ?_
 rintro e w1 ⟨v1, rfl, hr1, hb1⟩
 obtain ⟨A1, c1, fp1, rfl, how1, hfr1⟩ := hr1.own hb1.size
 clear hr1
 have hz1 := hb1.size
 simp only [World.size_alloc, World.size_setCell] at hz1
 have hw1 : Below w.heap.size w w1 := bel_trans b_5 hb1
 clear kB_0_0 fB_0_0 kB_0_1 fB_0_1 kB_0_2 fB_0_2 kB_0_3 fB_0_3 kB_0_4 fB_0_4 kR_0_0 fR_0_0 kR_0_1 fR_0_1 kR_0_2 fR_0_2 kR_0_3 fR_0_3 kR_0_4 fR_0_4
 have hB1 : Blk w1 (w.heap.size) 46 #[.slice A0 (List.length x.1) c0, .slice As1 (List.length x.2.1) cs1, .slice As2 (List.length x.2.2.1) cs2, .int .i64 x.2.2.2.1, .int .i64 x.2.2.2.2] := (hB0.set_ 0 (.slice A0 (List.length x.1) c0)).below hb1 b_19
 have hR1 : Blk w1 (w.heap.size + 1) 46 #[.slice none 0 0, .slice none 0 0, .slice none 0 0, .int .i64 0, .int .i64 0] := (hR0.far b_25 (.slice A0 (List.length x.1) c0)).below hb1 b_19
 obtain ⟨kB_1_0, kB_1_1, kB_1_2, kB_1_3, kB_1_4, fB_1_0, fB_1_1, fB_1_2, fB_1_3, fB_1_4, zB_1⟩ := bk5 hB1
 obtain ⟨kR_1_0, kR_1_1, kR_1_2, kR_1_3, kR_1_4, fR_1_0, fR_1_1, fR_1_2, fR_1_3, fR_1_4, zR_1⟩ := bk5 hR1
 go_wp2_with fail
 refine (C_impl_copyName _ _ x.2.2.1 (Ty.rd_below (bel_set hw1 (Nat.le_refl _) _) sg2) b_29).mono ?_
 rintro e w2 ⟨cs2, fp2, rfl, how2, hfr2, hb2⟩
 obtain ⟨A2, c2, rfl⟩ := Ty.ow_slv how2
 have hz2 := hb2.size
 simp only [World.size_alloc, World.size_setCell] at hz2
 have hw2 : Below w.heap.size w w2 := bel_trans b_5 hb2
 clear kB_1_0 fB_1_0 kB_1_1 fB_1_1 kB_1_2 fB_1_2 kB_1_3 fB_1_3 kB_1_4 fB_1_4 kR_1_0 fR_1_0 kR_1_1 fR_1_1 kR_1_2 fR_1_2 kR_1_3 fR_1_3 kR_1_4 fR_1_4
 have hB2 : Blk w2 (w.heap.size) 46 #[.slice A0 (List.length x.1) c0, .slice A1 (List.length x.2.1) c1, .slice As2 (List.length x.2.2.1) cs2, .int .i64 x.2.2.2.1, .int .i64 x.2.2.2.2] := (hB1.set_ 1 (.slice A1 (List.length x.2.1) c1)).below hb2 b_19
 have hR2 : Blk w2 (w.heap.size + 1) 46 #[.slice none 0 0, .slice none 0 0, .slice none 0 0, .int .i64 0, .int .i64 0] := (hR1.far b_25 (.slice A1 (List.length x.2.1) c1)).below hb2 b_19
 obtain ⟨kB_2_0, kB_2_1, kB_2_2, kB_2_3, kB_2_4, fB_2_0, fB_2_1, fB_2_2, fB_2_3, fB_2_4, zB_2⟩ := bk5 hB2
 obtain ⟨kR_2_0, kR_2_1, kR_2_2, kR_2_3, kR_2_4, fR_2_0, fR_2_1, fR_2_2, fR_2_3, fR_2_4, zR_2⟩ := bk5 hR2
 go_wp2
 refine bodyPost_ret (v := .agg #[.slice A0 (List.length x.1) c0, .slice A1 (List.length x.2.1) c1, .slice A2 (List.length x.2.2.1) c2, .int .i64 x.2.2.2.1, .int .i64 x.2.2.2.2]) (by simp [results, Try.results97, go_sem, kB_2_0, kB_2_1, kB_2_2, kB_2_3, kB_2_4, kR_2_0, kR_2_1, kR_2_2, kR_2_3, kR_2_4, fB_2_0, fB_2_1, fB_2_2, fB_2_3, fB_2_4, fR_2_0, fR_2_1, fR_2_2, fR_2_3, fR_2_4]) rfl ?_
 exact ⟨_, _, rfl, ow_Data_mk (Ty.ow_keep b_1 how0) (Ty.ow_keep (by intro b hb'; have hb'' := (hfr1).2 b hb'; (try simp only [szz] at hb''); repeat (first | (with_reducible rfl) | (rw [Below.heap_setCell _ _ _ _ b_24]) | (rw [Below.heap_alloc _ _ _ (by simp only [World.size_alloc, World.size_setCell]; omega)]) | (rw [hb2.block _ (by simp only [szz]; omega)]))) how1) (Ty.ow_keep b_8 how2) sg3 sg4, (fr3 (m1 := w0.heap.size) (m2 := w1.heap.size) (hfr0.mono b_21 (Nat.le_refl _)) (hfr1.mono (by (try simp only [World.size_alloc, World.size_setCell]); omega) (Nat.le_refl _)) (hfr2.mono (by (try simp only [World.size_alloc, World.size_setCell]); omega) b_21) b_21 b_21 b_21), bel_trans b_5 (Below.refl _ _)⟩
set_option maxRecDepth 100000 in
set_option maxHeartbeats 2000000 in
theorem C_spec_l8Copy (w : World) (cs : List Value) (x : tData.D) (h : tData.rd w cs x) (s0 : Ty.bulk tData x ≤ 1000000000) :
  Calls Try.prog 100 #[.agg cs.toArray] w (RetAgg w tData x) := by
 obtain ⟨As0, cs0, As1, cs1, As2, cs2, rfl, sg0, sg1, sg2, sg3, sg4⟩ := rd_Data h
 obtain ⟨l0, l1, l2⟩ := data_parts s0
 go_enter Try.func100, Try.ntmps100
 go_wp2_with fail
 refine (C_spec_l4Copy _ _ x.1 (Ty.rd_below b_5 sg0) b_29).mono ?_
 rintro e w0 ⟨cs0, fp0, rfl, how0, hfr0, hb0⟩
 obtain ⟨A0, c0, rfl⟩ := Ty.ow_slv how0
 have hz0 := hb0.size
 simp only [World.size_alloc, World.size_setCell] at hz0
 have hw0 : Below w.heap.size w w0 := bel_trans b_5 hb0
 have hB0 : Blk w0 (w.heap.size) 46 #[.slice As0 (List.length x.1) cs0, .slice As1 (List.length x.2.1) cs1, .slice As2 (List.length x.2.2.1) cs2, .int .i64 x.2.2.2.1, .int .i64 x.2.2.2.2] := (((Blk.new w 46 #[.slice As0 (List.length x.1) cs0, .slice As1 (List.length x.2.1) cs1, .slice As2 (List.length x.2.2.1) cs2, .int .i64 x.2.2.2.1, .int .i64 x.2.2.2.2]).alloc _).alloc _).below hb0 b_20
 have hR0 : Blk w0 (w.heap.size + 1) 46 #[.slice none 0 0, .slice none 0 0, .slice none 0 0, .int .i64 0, .int .i64 0] := ((show Blk ((w.alloc (.cells #[.slice As0 (List.length x.1) cs0, .slice As1 (List.length x.2.1) cs1, .slice As2 (List.length x.2.2.1) cs2, .int .i64 x.2.2.2.1, .int .i64 x.2.2.2.2] 46)).alloc (.cells #[.slice none 0 0, .slice none 0 0, .slice none 0 0, .int .i64 0, .int .i64 0] 46)) (w.heap.size + 1) 46 #[.slice none 0 0, .slice none 0 0, .slice none 0 0, .int .i64 0, .int .i64 0] from by have := Blk.new (w.alloc (.cells #[.slice As0 (List.length x.1) cs0, .slice As1 (List.length x.2.1) cs1, .slice As2 (List.length x.2.2.1) cs2, .int .i64 x.2.2.2.1, .int .i64 x.2.2.2.2] 46)) 46 #[.slice none 0 0, .slice none 0 0, .slice none 0 0, .int .i64 0, .int .i64 0]; rwa [World.size_alloc] at this).alloc _).below hb0 b_20
 have hO0 : Blk w0 (w.heap.size + 1 + 1) 46 #[.slice As0 (List.length x.1) cs0, .slice As1 (List.length x.2.1) cs1, .slice As2 (List.length x.2.2.1) cs2, .int .i64 x.2.2.2.1, .int .i64 x.2.2.2.2] := (show Blk (((w.alloc (.cells #[.slice As0 (List.length x.1) cs0, .slice As1 (List.length x.2.1) cs1, .slice As2 (List.length x.2.2.1) cs2, .int .i64 x.2.2.2.1, .int .i64 x.2.2.2.2] 46)).alloc (.cells #[.slice none 0 0, .slice none 0 0, .slice none 0 0, .int .i64 0, .int .i64 0] 46)).alloc (.cells #[.slice As0 (List.length x.1) cs0, .slice As1 (List.length x.2.1) cs1, .slice As2 (List.length x.2.2.1) cs2, .int .i64 x.2.2.2.1, .int .i64 x.2.2.2.2] 46)) (w.heap.size + 1 + 1) 46 #[.slice As0 (List.length x.1) cs0, .slice As1 (List.length x.2.1) cs1, .slice As2 (List.length x.2.2.1) cs2, .int .i64 x.2.2.2.1, .int .i64 x.2.2.2.2] from by have := Blk.new ((w.alloc (.cells #[.slice As0 (List.length x.1) cs0, .slice As1 (List.length x.2.1) cs1, .slice As2 (List.length x.2.2.1) cs2, .int .i64 x.2.2.2.1, .int .i64 x.2.2.2.2] 46)).alloc (.cells #[.slice none 0 0, .slice none 0 0, .slice none 0 0, .int .i64 0, .int .i64 0] 46)) 46 #[.slice As0 (List.length x.1) cs0, .slice As1 (List.length x.2.1) cs1, .slice As2 (List.length x.2.2.1) cs2, .int .i64 x.2.2.2.1, .int .i64 x.2.2.2.2]; rwa [World.size_alloc, World.size_alloc] at this).below hb0 b_20
 obtain ⟨kB_0_0, kB_0_1, kB_0_2, kB_0_3, kB_0_4, fB_0_0, fB_0_1, fB_0_2, fB_0_3, fB_0_4, zB_0⟩ := bk5 hB0
 obtain ⟨kR_0_0, kR_0_1, kR_0_2, kR_0_3, kR_0_4, fR_0_0, fR_0_1, fR_0_2, fR_0_3, fR_0_4, zR_0⟩ := bk5 hR0
 obtain ⟨kO_0_0, kO_0_1, kO_0_2, kO_0_3, kO_0_4, fO_0_0, fO_0_1, fO_0_2, fO_0_3, fO_0_4, zO_0⟩ := bk5 hO0
 have HL0 : Hid (Row flatB ((w0.setCell ⟨w.heap.size + 1 + 1, 0, none⟩ (.slice A0 (List.length x.1) c0)).alloc (.cells #[] 5)) w0.heap.size 5 (.slice (some ⟨w0.heap.size, 0, none⟩) 0 0) []) := by
  have := Row.lit0 flatB (w0.setCell ⟨w.heap.size + 1 + 1, 0, none⟩ (.slice A0 (List.length x.1) c0)) 5 (Nat.le_refl _)
  simp only [World.size_setCell] at this
  exact Lib.hid this
 go_wp2_with (at_builtin; go_loud (refine wpList_append_row rfl _ _ 22 rfl flatB w0.heap.size 5 infoB rfl Try.underlying22 _ _ [] x.2.1 rfl rfl HL0.out (Ty.rd_below (bel_alloc (bel_set hw0 b_25 _) _) sg1) ?_ ?_ ?_ ?_))
 case refine_1 => simp only [List.length_nil]; omega
 case refine_2 => simp only [List.length_nil]; unfold maxLen; omega
 case refine_3 => simp only [World.size_alloc, World.size_setCell]; omega
 intro v1 w1 hr1 hg1
 have hr1' : Row flatB w1 w0.heap.size 5 v1 x.2.1 := hr1
 have hb1 : Below (w0.setCell ⟨w.heap.size + 1 + 1, 0, none⟩ (.slice A0 (List.length x.1) c0)).heap.size (w0.setCell ⟨w.heap.size + 1 + 1, 0, none⟩ (.slice A0 (List.length x.1) c0)) w1 := bel_grown (bel_alloc (Below.refl _ _) _) (by simp only [World.size_alloc, World.size_setCell]; omega) hg1 (fun g hg => by simp [Value.ownBlock] at hg; simp only [World.size_setCell]; omega)
 obtain ⟨A1, c1, fp1, rfl, how1, hfr1⟩ := hr1'.own (by have := hb1.size; simp only [World.size_setCell] at this; exact this)
 clear hr1 hr1' hg1 HL0
 have hz1 := hb1.size
 simp only [World.size_alloc, World.size_setCell] at hz1
 have hw1 : Below w.heap.size w w1 := bel_trans b_5 hb1
 clear kB_0_0 fB_0_0 kB_0_1 fB_0_1 kB_0_2 fB_0_2 kB_0_3 fB_0_3 kB_0_4 fB_0_4 kR_0_0 fR_0_0 kR_0_1 fR_0_1 kR_0_2 fR_0_2 kR_0_3 fR_0_3 kR_0_4 fR_0_4 kO_0_0 fO_0_0 kO_0_1 fO_0_1 kO_0_2 fO_0_2 kO_0_3 fO_0_3 kO_0_4 fO_0_4
 have hB1 : Blk w1 (w.heap.size) 46 #[.slice As0 (List.length x.1) cs0, .slice As1 (List.length x.2.1) cs1, .slice As2 (List.length x.2.2.1) cs2, .int .i64 x.2.2.2.1, .int .i64 x.2.2.2.2] := (hB0.far b_25 (.slice A0 (List.length x.1) c0)).below hb1 b_19
 have hR1 : Blk w1 (w.heap.size + 1) 46 #[.slice none 0 0, .slice none 0 0, .slice none 0 0, .int .i64 0, .int .i64 0] := (hR0.far b_25 (.slice A0 (List.length x.1) c0)).below hb1 b_19
 have hO1 : Blk w1 (w.heap.size + 1 + 1) 46 #[.slice A0 (List.length x.1) c0, .slice As1 (List.length x.2.1) cs1, .slice As2 (List.length x.2.2.1) cs2, .int .i64 x.2.2.2.1, .int .i64 x.2.2.2.2] := (hO0.set_ 0 (.slice A0 (List.length x.1) c0)).below hb1 b_19
 obtain ⟨kB_1_0, kB_1_1, kB_1_2, kB_1_3, kB_1_4, fB_1_0, fB_1_1, fB_1_2, fB_1_3, fB_1_4, zB_1⟩ := bk5 hB1
 obtain ⟨kR_1_0, kR_1_1, kR_1_2, kR_1_3, kR_1_4, fR_1_0, fR_1_1, fR_1_2, fR_1_3, fR_1_4, zR_1⟩ := bk5 hR1
 obtain ⟨kO_1_0, kO_1_1, kO_1_2, kO_1_3, kO_1_4, fO_1_0, fO_1_1, fO_1_2, fO_1_3, fO_1_4, zO_1⟩ := bk5 hO1
 go_wp2_with fail
 refine (C_spec_l4Copy _ _ x.2.2.1 (Ty.rd_below (bel_set hw1 b_25 _) sg2) b_29).mono ?_
 rintro e w2 ⟨cs2, fp2, rfl, how2, hfr2, hb2⟩
 obtain ⟨A2, c2, rfl⟩ := Ty.ow_slv how2
 have hz2 := hb2.size
 simp only [World.size_alloc, World.size_setCell] at hz2
 have hw2 : Below w.heap.size w w2 := bel_trans b_5 hb2
 clear kB_1_0 fB_1_0 kB_1_1 fB_1_1 kB_1_2 fB_1_2 kB_1_3 fB_1_3 kB_1_4 fB_1_4 kR_1_0 fR_1_0 kR_1_1 fR_1_1 kR_1_2 fR_1_2 kR_1_3 fR_1_3 kR_1_4 fR_1_4 kO_1_0 fO_1_0 kO_1_1 fO_1_1 kO_1_2 fO_1_2 kO_1_3 fO_1_3 kO_1_4 fO_1_4
 have hB2 : Blk w2 (w.heap.size) 46 #[.slice As0 (List.length x.1) cs0, .slice As1 (List.length x.2.1) cs1, .slice As2 (List.length x.2.2.1) cs2, .int .i64 x.2.2.2.1, .int .i64 x.2.2.2.2] := (hB1.far b_25 (.slice A1 (List.length x.2.1) c1)).below hb2 b_19
 have hR2 : Blk w2 (w.heap.size + 1) 46 #[.slice none 0 0, .slice none 0 0, .slice none 0 0, .int .i64 0, .int .i64 0] := (hR1.far b_25 (.slice A1 (List.length x.2.1) c1)).below hb2 b_19
 have hO2 : Blk w2 (w.heap.size + 1 + 1) 46 #[.slice A0 (List.length x.1) c0, .slice A1 (List.length x.2.1) c1, .slice As2 (List.length x.2.2.1) cs2, .int .i64 x.2.2.2.1, .int .i64 x.2.2.2.2] := (hO1.set_ 1 (.slice A1 (List.length x.2.1) c1)).below hb2 b_19
 obtain ⟨kB_2_0, kB_2_1, kB_2_2, kB_2_3, kB_2_4, fB_2_0, fB_2_1, fB_2_2, fB_2_3, fB_2_4, zB_2⟩ := bk5 hB2
 obtain ⟨kR_2_0, kR_2_1, kR_2_2, kR_2_3, kR_2_4, fR_2_0, fR_2_1, fR_2_2, fR_2_3, fR_2_4, zR_2⟩ := bk5 hR2
 obtain ⟨kO_2_0, kO_2_1, kO_2_2, kO_2_3, kO_2_4, fO_2_0, fO_2_1, fO_2_2, fO_2_3, fO_2_4, zO_2⟩ := bk5 hO2
 go_wp2
 refine bodyPost_ret (v := .agg #[.slice A0 (List.length x.1) c0, .slice A1 (List.length x.2.1) c1, .slice A2 (List.length x.2.2.1) c2, .int .i64 x.2.2.2.1, .int .i64 x.2.2.2.2]) (by simp [results, Try.results100, go_sem, kO_2_0, kO_2_1, kO_2_2, kO_2_3, kO_2_4, kR_2_0, kR_2_1, kR_2_2, kR_2_3, kR_2_4, fO_2_0, fO_2_1, fO_2_2, fO_2_3, fO_2_4, fR_2_0, fR_2_1, fR_2_2, fR_2_3, fR_2_4]) rfl ?_
 exact ⟨_, _, rfl, ow_Data_mk (Ty.ow_keep b_1 how0) (Ty.ow_keep (by intro b hb'; have hb'' := (hfr1).2 b hb'; (try simp only [szz] at hb''); repeat (first | (with_reducible rfl) | (rw [Below.heap_setCell _ _ _ _ b_24]) | (rw [Below.heap_alloc _ _ _ (by simp only [World.size_alloc, World.size_setCell]; omega)]) | (rw [hb2.block _ (by simp only [szz]; omega)]))) how1) (Ty.ow_keep b_8 how2) sg3 sg4, (fr3 (m1 := w0.heap.size) (m2 := w1.heap.size) (hfr0.mono b_21 (Nat.le_refl _)) (hfr1.mono (by (try simp only [World.size_alloc, World.size_setCell]); omega) (Nat.le_refl _)) (hfr2.mono (by (try simp only [World.size_alloc, World.size_setCell]); omega) b_21) b_21 b_21 b_21), bel_trans b_5 (Below.refl _ _)⟩
theorem varint_lt : ∀ (k n : Nat), n < 128 ^ (k + 1) → (varint n).length ≤ k + 1
 | 0, n, h => by rw [varint, dif_pos b_29]; simp
 | k + 1, n, h => by
  rw [varint]
  by_cases hn : n < 128
  ·rw [dif_pos hn]; simp
  ·rw [dif_neg hn, List.length_cons]
   have := varint_lt k (n / 128) (by rw [Nat.div_lt_iff_lt_mul b_28]; rw [Nat.pow_succ] at h; exact h)
   omega
theorem appendVarint_len (b : List UInt8) (n : Int) : (f_AppendVarint b n).length ≤ b.length + 6 := by
 unfold f_AppendVarint
 split
 ·rename_i h
  have := varint_lt 5 n.toNat b_29
  rw [List.length_append]; omega
 ·omega
def f_AppendBytes (b s : List UInt8) : List UInt8 := f_AppendVarint b s.length ++ s
def f_EncodeInts (l : List Int) : List UInt8 := l.foldl f_AppendVarint []
theorem encodeInts_take (l : List Int) {k : Nat} (h : k < l.length) : f_EncodeInts (l.take (k + 1)) = f_AppendVarint (f_EncodeInts (l.take k)) l[k] := by
 unfold f_EncodeInts
 rw [List.take_succ_eq_append_getElem h, List.foldl_append]; rfl
theorem encodeInts_len (l : List Int) : (f_EncodeInts l).length ≤ 6 * l.length := by
 have : ∀ (l : List Int) (b : List UInt8), (l.foldl f_AppendVarint b).length ≤ b.length + 6 * l.length := by
  intro l
  induction l with
  | nil => intro b; simp
  | cons a l ih => intro b; have h1 := ih (f_AppendVarint b a); have h2 := appendVarint_len b a; rw [List.foldl_cons, List.length_cons]; omega
 have := this l []
 simpa [f_EncodeInts] using this
set_option maxHeartbeats 1000000 in
theorem C_spec_AppendBytes (w : World) (v1 v2 : Value) (b s : List UInt8) (h1 : (Ty.sl .byte).rd w [v1] b) (h2 : (Ty.sl .byte).rd w [v2] s) (hb : b.length ≤ 1099511627776) (hs : s.length ≤ 1099511627776) :
  Calls Try.prog 127 #[v1, v2] w (RetRow flatB w 5 (f_AppendBytes b s)) := by
 obtain ⟨A2, c2, rfl, hc2, hm2, hn2⟩ := Ty.rd_sl h2
 go_enter Try.func127, Try.ntmps127
 go_wp2_with fail
 refine (C_spec_AppendVarint _ _ b (s.length : Int) h1 hb b_29).mono ?_
 rintro e w1 ⟨u1, rfl, hr1, hb1⟩
 have HR := Lib.hid hr1
 clear hr1
 have HL := Lib.hid (appendVarint_len b s.length)
 have hz := hb1.size
 set_option maxRecDepth 100000 in go_wp2_with (at_builtin; go_loud (refine wpList_append_row rfl _ _ 22 rfl flatB w.heap.size 5 infoB rfl Try.underlying22 _ _ (f_AppendVarint b s.length) s rfl rfl HR.out (Ty.rd_below b_5 h2) ?_ ?_ ?_ ?_))
 case refine_1 => have := HL.out; omega
 case refine_2 => have := HL.out; unfold maxLen; omega
 case refine_3 => exact hz
 case refine_4 =>
  intro v' w' hr' hg'
  have hb' : Below w.heap.size w w' := bel_grown hb1 hz hg' (fun g hg => (HR.out.block g hg).1)
  have HR' := Lib.hid hr'
  clear hr'
  go_wp2
  go_ret
  exact ⟨_, rfl, HR'.out, hb'⟩
set_option maxHeartbeats 1000000 in
theorem C_spec_EncodeInts (w : World) (v : Value) (x : List Int) (h : (Ty.sl .int).rd w [v] x) (hx : x.length ≤ 100000000000) : Calls Try.prog 129 #[v] w (RetRow flatB w 5 (f_EncodeInts x)) := by
 obtain ⟨A, c, rfl, hc, hm, hn⟩ := Ty.rd_sl h
 go_enter Try.func129, Try.ntmps129
 go_wp2
 go_loopw [3, 4] (fun l i wr => ∃ k : Nat, k ≤ x.length ∧ i = .int .i64 k ∧ Row flatB wr w.heap.size 5 l (f_EncodeInts (x.take k)) ∧ Below w.heap.size w wr) (fun _ i _ => x.length - (intOf i).toNat)
 case atStart => exact ⟨0, by omega, rfl, Row.lit0 flatB w 5 (Nat.le_refl _), b_5⟩
 case round =>
  obtain ⟨k, hk, rfl, hr, hb⟩ := hrel
  have HR := Lib.hid hr
  clear hr
  by_cases hlt : k < x.length
  ·obtain ⟨b, o, rfl, e0, n0⟩ := Ty.rd_int_at (Ty.rd_below hb h) hlt
   have HP := Lib.hid (encodeInts_take x hlt)
   have HL := Lib.hid (encodeInts_len (x.take k))
   go_wp2_with fail
   refine (C_spec_AppendVarint _ _ (f_EncodeInts (x.take k)) x[k] (HR.out.rd hb.size) (by have := HL.out; rw [List.length_take] at this; omega) n0).mono ?_
   rintro e w1 ⟨u1, rfl, hr1, hb1⟩
   have hw1 : Below w.heap.size w w1 := bel_trans hb hb1
   have HR1 := Lib.hid (hr1.mono hb.size)
   clear hr1
   go_wp2
   go_roundw
   case rel => exact ⟨k + 1, by omega, by go_num, by rw [HP.out]; exact HR1.out, hw1⟩
   case measure => simp [intOf]; omega
  ·have HE : Hid (f_EncodeInts (x.take k) = f_EncodeInts x) := by rw [List.take_of_length_le b_29]; exact rfl
   go_wp2
   go_ret
   exact ⟨_, rfl, by rw [← HE.out]; exact HR.out, hb⟩
set_option maxHeartbeats 1000000 in
theorem C_impl_AppendBytes (w : World) (v1 v2 : Value) (b s : List UInt8) (h1 : (Ty.sl .byte).rd w [v1] b) (h2 : (Ty.sl .byte).rd w [v2] s) (hb : b.length ≤ 1099511627776) (hs : s.length ≤ 1099511627776) :
  Calls Try.prog 115 #[v1, v2] w (RetRow flatB w 5 (f_AppendBytes b s)) := by
 obtain ⟨A2, c2, rfl, hc2, hm2, hn2⟩ := Ty.rd_sl h2
 go_enter Try.func115, Try.ntmps115
 go_wp2_with fail
 refine (C_impl_AppendVarint _ _ b (s.length : Int) h1 hb b_29).mono ?_
 rintro e w1 ⟨u1, rfl, hr1, hb1⟩
 have HR := Lib.hid hr1
 clear hr1
 have HL := Lib.hid (appendVarint_len b s.length)
 have hz := hb1.size
 set_option maxRecDepth 100000 in go_wp2_with (at_builtin; go_loud (refine wpList_append_row rfl _ _ 22 rfl flatB w.heap.size 5 infoB rfl Try.underlying22 _ _ (f_AppendVarint b s.length) s rfl rfl HR.out (Ty.rd_below b_5 h2) ?_ ?_ ?_ ?_))
 case refine_1 => have := HL.out; omega
 case refine_2 => have := HL.out; unfold maxLen; omega
 case refine_3 => exact hz
 case refine_4 =>
  intro v' w' hr' hg'
  have hb' : Below w.heap.size w w' := bel_grown hb1 hz hg' (fun g hg => (HR.out.block g hg).1)
  have HR' := Lib.hid hr'
  clear hr'
  go_wp2
  go_ret
  exact ⟨_, rfl, HR'.out, hb'⟩
set_option maxHeartbeats 1000000 in
theorem C_impl_EncodeInts (w : World) (v : Value) (x : List Int) (h : (Ty.sl .int).rd w [v] x) (hx : x.length ≤ 100000000000) : Calls Try.prog 116 #[v] w (RetRow flatB w 5 (f_EncodeInts x)) := by
 obtain ⟨A, c, rfl, hc, hm, hn⟩ := Ty.rd_sl h
 go_enter Try.func116, Try.ntmps116
 go_wp2
 go_loopw [3, 9] (fun l i wr => ∃ k : Nat, k ≤ x.length ∧ i = .int .i64 k ∧ Row flatB wr w.heap.size 5 l (f_EncodeInts (x.take k)) ∧ Below w.heap.size w wr) (fun _ i _ => x.length - (intOf i).toNat)
 case atStart => exact ⟨0, by omega, rfl, Row.lit0 flatB w 5 (Nat.le_refl _), b_5⟩
 case round =>
  obtain ⟨k, hk, rfl, hr, hb⟩ := hrel
  have HR := Lib.hid hr
  clear hr
  by_cases hlt : k < x.length
  ·obtain ⟨b, o, rfl, e0, n0⟩ := Ty.rd_int_at (Ty.rd_below hb h) hlt
   have HP := Lib.hid (encodeInts_take x hlt)
   have HL := Lib.hid (encodeInts_len (x.take k))
   go_wp2_with fail
   refine (C_impl_AppendVarint _ _ (f_EncodeInts (x.take k)) x[k] (HR.out.rd hb.size) (by have := HL.out; rw [List.length_take] at this; omega) n0).mono ?_
   rintro e w1 ⟨u1, rfl, hr1, hb1⟩
   have hw1 : Below w.heap.size w w1 := bel_trans hb hb1
   have HR1 := Lib.hid (hr1.mono hb.size)
   clear hr1
   go_wp2
   go_roundw
   case rel => exact ⟨k + 1, by omega, by go_num, by rw [HP.out]; exact HR1.out, hw1⟩
   case measure => simp [intOf]; omega
  ·have HE : Hid (f_EncodeInts (x.take k) = f_EncodeInts x) := by rw [List.take_of_length_le b_29]; exact rfl
   go_wp2
   go_ret
   exact ⟨_, rfl, by rw [← HE.out]; exact HR.out, hb⟩
def convW (W : World) (te : TypeId) (s : List UInt8) : World := W.drew.alloc (.cells (bytesRow ⟨s.toArray⟩ (grownCap W s.length 0 te)) te ((bytesRow ⟨s.toArray⟩ (grownCap W s.length 0 te)).size, (bytesRow ⟨s.toArray⟩ (grownCap W s.length 0 te)).size + 1))
theorem convW_bel (W : World) (te : TypeId) (s : List UInt8) : Below W.heap.size W (convW W te s) := bel_alloc (bel_drew (Below.refl _ _)) _
theorem convW_rd (W : World) (te : TypeId) (s : List UInt8) (hs : s.length ≤ 1099511627776) : (Ty.sl .byte).rd (convW W te s) [.slice (some ⟨W.heap.size, 0, none⟩) s.length (grownCap W s.length 0 te)] s := by
 refine ⟨_, _, rfl, grownCap_ge W _ _ _, ⟨grownCap_le_maxLen W _ _ _ (by unfold maxLen; omega), fun h => by cases h⟩, by show s.length ≤ _; omega, fun _ => ⟨W.heap.size, 0, rfl, fun i hi => ⟨[.int .u8 (s[i].toNat : Int)], rfl, fun j hj => ?_, rfl⟩⟩⟩
 have hj0 : j = 0 := by simp [Ty.sz] at hj; omega
 subst hj0
 have h1 := cell_of_row (convW W te s) W.heap.size (0 + i * Ty.byte.sz + 0) _ _ _ (heap_alloc_new W.drew _)
 rw [h1]
 have h2 := bytesRow_at ⟨s.toArray⟩ (grownCap W s.length 0 te) i (by simpa using hi)
 rw [show 0 + i * Ty.byte.sz + 0 = i from by simp [Ty.sz], h2]
 simp
theorem foldBytes_len : ∀ (l : List (List UInt8)) (b : List UInt8), (∀ s ∈ l, s.length ≤ 8) → (l.foldl f_AppendBytes b).length ≤ b.length + 14 * l.length
 | [], b, _ => by simp
 | s :: l, b, h => by
  have h1 := foldBytes_len l (f_AppendBytes b s) (fun t ht => h t (List.mem_cons_of_mem _ ht))
  have h2 := appendVarint_len b s.length
  have h3 := h s (List.mem_cons_self ..)
  have h4 : (f_AppendBytes b s).length = (f_AppendVarint b s.length).length + s.length := by unfold f_AppendBytes; rw [List.length_append]
  rw [List.foldl_cons, List.length_cons]; omega
theorem foldBytes_take (l : List (List UInt8)) (b : List UInt8) {k : Nat} (h : k < l.length) : (l.take (k + 1)).foldl f_AppendBytes b = f_AppendBytes ((l.take k).foldl f_AppendBytes b) l[k] := by
 rw [List.take_succ_eq_append_getElem h, List.foldl_append]; rfl
theorem validName_parts {n : List (List UInt8)} (h : validName n = true) : n.length ≤ 6 ∧ ∀ s ∈ n, s.length ≤ 8 := by
 unfold validName at h
 simp only [Bool.and_eq_true, decide_eq_true_eq, List.all_eq_true] at h
 refine ⟨h.2, fun s hs => ?_⟩
 have := h.1 s hs
 unfold validPart at this
 simp only [Bool.and_eq_true, decide_eq_true_eq] at this
 exact this.2.2
def nameBytes (b : List UInt8) (n : List (List UInt8)) : List UInt8 := n.foldl f_AppendBytes (f_AppendVarint b n.length)
def f_AppendName (b : List UInt8) (n : List (List UInt8)) : List UInt8 := if validName n then nameBytes b n else b
set_option maxHeartbeats 1000000 in
theorem C_impl_AppendName (w : World) (v1 : Value) (b : List UInt8) (cs : List Value) (n : List (List UInt8)) (h1 : (Ty.sl .byte).rd w [v1] b) (h2 : (Ty.sl .str).rd w cs n) (hb : b.length ≤ 1000000000000) :
  Calls Try.prog 114 #[v1, .agg cs.toArray] w (RetRow flatB w 5 (f_AppendName b n)) := by
 obtain ⟨A2, c2, rfl⟩ := Ty.rd_slv h2
 obtain ⟨_, _, _, _, _, n2⟩ := Ty.rd_sl h2
 have hconv : ∀ (W : World) (s : List UInt8), (convert 9 22 (vS s)).run Try.prog W = .ok (.slice (some ⟨W.heap.size, 0, none⟩) s.length (grownCap W s.length 0 5)) (convW W 5 s) := fun W s => run_bytes_of_string W _ _ _ ⟨s.toArray⟩ Try.underlying9 Try.underlying22 Try.underlying5
 go_enter Try.func114, Try.ntmps114
 go_wp2_with fail
 refine (C_impl_ValidName _ _ _ (Ty.rd_below b_5 h2)).mono ?_
 rintro e w1 ⟨rfl, hb1⟩
 have hw1 : Below w.heap.size w w1 := bel_trans b_5 hb1
 obtain ⟨hc1, hf1⟩ := bcell hb1
 have z1 : w.heap.size < w1.heap.size := by have := hb1.size; simp only [World.size_alloc] at this; omega
 have HF := Lib.hid (show f_AppendName b n = if validName n then nameBytes b n else b from rfl)
 cases hq : validName n
 ·rw [hq] at HF
  go_wp2_with fail
  refine (C_slices_Clone_byte _ _ b (Ty.rd_below hw1 h1) b_29).mono ?_
  rintro e w2 ⟨u2, rfl, hr2, hb2⟩
  have HR := Lib.hid (hr2.mono hw1.size)
  clear hr2
  go_wp2
  go_ret
  exact ⟨_, rfl, by rw [HF.out]; exact HR.out, bel_trans hw1 hb2⟩
 ·rw [hq] at HF
  have HV := Lib.hid (validName_parts hq)
  have hl6 := HV.out.1
  go_wp2_with fail
  refine (C_impl_AppendVarint _ _ b (n.length : Int) (Ty.rd_below hw1 h1) b_29 b_29).mono ?_
  rintro e w2 ⟨u2, rfl, hr2, hb2⟩
  have hw2 : Below w.heap.size w w2 := bel_trans hw1 hb2
  have HR := Lib.hid (hr2.mono hw1.size)
  clear hr2
  obtain ⟨hc2, hf2⟩ := bcell hb2
  have HL0 := Lib.hid (appendVarint_len b n.length)
  go_wp2
  go_loopw [5, 21] (fun l i wr => ∃ k : Nat, k ≤ n.length ∧ i = .int .i64 k ∧ Row flatB wr w.heap.size 5 l ((n.take k).foldl f_AppendBytes (f_AppendVarint b n.length)) ∧ Below w.heap.size w wr) (fun _ i _ => n.length - (intOf i).toNat)
  case atStart => exact ⟨0, by omega, rfl, HR.out, hw2⟩
  case round =>
   obtain ⟨k, hk, rfl, hr, hbr⟩ := hrel
   have HRr := Lib.hid hr
   clear hr
   by_cases hlt : k < n.length
   ·obtain ⟨ab, ao, rfl, e0, m0⟩ := Ty.rd_str_at (Ty.rd_below hbr h2) hlt
    have HP := Lib.hid (foldBytes_take n (f_AppendVarint b n.length) hlt)
    have HL := Lib.hid (foldBytes_len (n.take k) (f_AppendVarint b n.length) (fun s hs => HV.out.2 s (List.mem_of_mem_take hs)))
    have hp8 : n[k].length ≤ 8 := HV.out.2 _ (List.getElem_mem hlt)
    go_wp2_with fail
    refine (C_impl_AppendBytes _ _ _ ((n.take k).foldl f_AppendBytes (f_AppendVarint b n.length)) n[k] ((HRr.out.below (convW_bel wr _ _)).rd (Nat.le_trans hbr.size (convW_bel wr _ _).size)) (convW_rd wr 5 n[k] b_29) (by have h3 := HL.out; have h4 := HL0.out; rw [List.length_take] at h3; omega) b_29).mono ?_
    rintro e w3 ⟨u3, rfl, hr3, hb3⟩
    have hb3' := bel_trans (convW_bel wr _ _) hb3
    have hw3 : Below w.heap.size w w3 := bel_trans hbr hb3'
    have HR3 := Lib.hid (hr3.mono (Nat.le_trans hbr.size (convW_bel wr _ _).size))
    clear hr3
    go_wp2
    go_roundw
    case rel => exact ⟨k + 1, by omega, by go_num, by rw [HP.out]; exact HR3.out, hw3⟩
    case measure => simp [intOf]; omega
   ·have HE : Hid ((n.take k).foldl f_AppendBytes (f_AppendVarint b n.length) = nameBytes b n) := by rw [List.take_of_length_le b_29]; exact rfl
    go_wp2
    go_ret
    exact ⟨_, rfl, by rw [HF.out, ← HE.out]; exact HRr.out, hbr⟩
set_option maxHeartbeats 1000000 in
theorem C_spec_AppendName (w : World) (v1 : Value) (b : List UInt8) (cs : List Value) (n : List (List UInt8)) (h1 : (Ty.sl .byte).rd w [v1] b) (h2 : (Ty.sl .str).rd w cs n) (hb : b.length ≤ 1000000000000) :
  Calls Try.prog 128 #[v1, .agg cs.toArray] w (RetRow flatB w 5 (f_AppendName b n)) := by
 obtain ⟨A2, c2, rfl⟩ := Ty.rd_slv h2
 obtain ⟨_, _, _, _, _, n2⟩ := Ty.rd_sl h2
 have hconv : ∀ (W : World) (s : List UInt8), (convert 9 22 (vS s)).run Try.prog W = .ok (.slice (some ⟨W.heap.size, 0, none⟩) s.length (grownCap W s.length 0 5)) (convW W 5 s) := fun W s => run_bytes_of_string W _ _ _ ⟨s.toArray⟩ Try.underlying9 Try.underlying22 Try.underlying5
 go_enter Try.func128, Try.ntmps128
 have hl0 : Row flatB ((w.alloc (.cells #[.slice A2 n.length c2] 27)).alloc (.cells #[] 5)) w.heap.size 5 (.slice (some ⟨w.heap.size + 1, 0, none⟩) 0 0) [] := by
  have := Row.lit0 flatB (w.alloc (.cells #[.slice A2 n.length c2] 27)) 5 (base := w.heap.size) b_22
  rwa [World.size_alloc] at this
 have HL00 := Lib.hid hl0
 clear hl0
 set_option maxRecDepth 100000 in go_wp2_with (at_builtin; go_loud (refine wpList_append_row rfl _ _ 22 rfl flatB w.heap.size 5 infoB rfl Try.underlying22 _ _ [] b rfl rfl HL00.out (Ty.rd_below b_5 h1) ?_ ?_ ?_ ?_))
 case refine_1 => simp only [List.length_nil]; omega
 case refine_2 => simp only [List.length_nil]; unfold maxLen; omega
 case refine_3 => simp only [World.size_alloc]; omega
 intro v0 w0 hr0 hg0
 have hb0 : Below w.heap.size w w0 := bel_grown b_5 b_21 hg0 (fun g hg => by simp [Value.ownBlock] at hg; omega)
 have hcl0 : w0.cell? ⟨w.heap.size, 0, none⟩ = some (.slice A2 n.length c2) := hg0.cell (by rw [World.cell?_alloc_lt _ _ _ b_20]; exact cell_new w _ _ 0 rfl) (by simp [Value.ownBlock])
 have z0 : w.heap.size < w0.heap.size := World.block_lt_of_cell? w0 _ hcl0
 have HR0 := Lib.hid hr0
 clear hr0
 go_wp2_with fail
 refine (C_spec_ValidName _ _ _ (Ty.rd_below hb0 h2)).mono ?_
 rintro e w1 ⟨rfl, hb1⟩
 have hw1 : Below w.heap.size w w1 := bel_trans hb0 hb1
 obtain ⟨hc1, hf1⟩ := bcell hb1
 have z1 : w.heap.size < w1.heap.size := Nat.lt_of_lt_of_le z0 hb1.size
 have HR1 := Lib.hid (HR0.out.below hb1)
 have HF := Lib.hid (show f_AppendName b n = if validName n then nameBytes b n else b from rfl)
 cases hq : validName n
 ·rw [hq] at HF
  go_wp2
  go_ret
  exact ⟨_, rfl, by rw [HF.out]; exact HR1.out, hw1⟩
 ·rw [hq] at HF
  have HV := Lib.hid (validName_parts hq)
  have hl6 := HV.out.1
  go_wp2_with fail
  refine (C_spec_AppendVarint _ _ b (n.length : Int) (HR1.out.rd hw1.size) b_29 b_29).mono ?_
  rintro e w2 ⟨u2, rfl, hr2, hb2⟩
  have hw2 : Below w.heap.size w w2 := bel_trans hw1 hb2
  have HR := Lib.hid (hr2.mono hw1.size)
  clear hr2
  have hcl2 : w2.cell? ⟨w.heap.size, 0, none⟩ = some (.slice A2 n.length c2) := (hb2.cell (p := ⟨w.heap.size, 0, none⟩) z1).trans ((hb1.cell (p := ⟨w.heap.size, 0, none⟩) z0).trans hcl0)
  have HL0 := Lib.hid (appendVarint_len b n.length)
  go_wp2
  go_loopw [5, 6] (fun l i wr => ∃ k : Nat, k ≤ n.length ∧ i = .int .i64 k ∧ Row flatB wr w.heap.size 5 l ((n.take k).foldl f_AppendBytes (f_AppendVarint b n.length)) ∧ Below w.heap.size w wr ∧ wr.cell? ⟨w.heap.size, 0, none⟩ = some (.slice A2 n.length c2)) (fun _ i _ => n.length - (intOf i).toNat)
  case atStart => exact ⟨0, by omega, rfl, HR.out, hw2, hcl2⟩
  case round =>
   obtain ⟨k, hk, rfl, hr, hbr, hcr⟩ := hrel
   have zr : w.heap.size < wr.heap.size := World.block_lt_of_cell? wr _ hcr
   have HRr := Lib.hid hr
   clear hr
   have hclr := hcr
   by_cases hlt : k < n.length
   ·obtain ⟨ab, ao, rfl, e0, m0⟩ := Ty.rd_str_at (Ty.rd_below hbr h2) hlt
    have HP := Lib.hid (foldBytes_take n (f_AppendVarint b n.length) hlt)
    have HL := Lib.hid (foldBytes_len (n.take k) (f_AppendVarint b n.length) (fun s hs => HV.out.2 s (List.mem_of_mem_take hs)))
    have hp8 : n[k].length ≤ 8 := HV.out.2 _ (List.getElem_mem hlt)
    go_wp2_with fail
    refine (C_spec_AppendBytes _ _ _ ((n.take k).foldl f_AppendBytes (f_AppendVarint b n.length)) n[k] ((HRr.out.below (convW_bel wr _ _)).rd (Nat.le_trans hbr.size (convW_bel wr _ _).size)) (convW_rd wr 5 n[k] b_29) (by have h3 := HL.out; have h4 := HL0.out; rw [List.length_take] at h3; omega) b_29).mono ?_
    rintro e w3 ⟨u3, rfl, hr3, hb3⟩
    have hb3' := bel_trans (convW_bel wr _ _) hb3
    have hw3 : Below w.heap.size w w3 := bel_trans hbr hb3'
    have HR3 := Lib.hid (hr3.mono (Nat.le_trans hbr.size (convW_bel wr _ _).size))
    clear hr3
    go_wp2
    go_roundw
    case rel => exact ⟨k + 1, by omega, by go_num, by rw [HP.out]; exact HR3.out, hw3, (hb3'.cell (p := ⟨w.heap.size, 0, none⟩) zr).trans hclr⟩
    case measure => simp [intOf]; omega
   ·have HE : Hid ((n.take k).foldl f_AppendBytes (f_AppendVarint b n.length) = nameBytes b n) := by rw [List.take_of_length_le b_29]; exact rfl
    go_wp2
    go_ret
    exact ⟨_, rfl, by rw [HF.out, ← HE.out]; exact HRr.out, hbr⟩
def mac (s : Int) (l : List Int) : Int := digest (s :: (l ++ [s]))
set_option maxHeartbeats 400000 in
theorem C_spec_ValidSecret (w : World) (n : Int) : Calls Try.prog 132 #[.int .i64 n] w (RetBP w (inR n 1 2147483646)) := by
 go_enter Try.func132, Try.ntmps132
 go_wp2_with fail
 refine (C_spec_l1In _ _ _ _).mono ?_
 rintro e w1 ⟨rfl, rfl⟩
 go_wp2
 go_ret
 exact ⟨rfl, rfl⟩
set_option maxHeartbeats 400000 in
theorem C_impl_ValidSecret (w : World) (n : Int) : Calls Try.prog 65 #[.int .i64 n] w (RetBP w (inR n 1 2147483646)) := by
 go_enter Try.func65, Try.ntmps65
 go_wp2_with fail
 refine (C_impl_InRange _ _ _ _).mono ?_
 rintro e w1 ⟨rfl, rfl⟩
 go_wp2
 go_ret
 exact ⟨rfl, rfl⟩
set_option maxHeartbeats 1000000 in
theorem C_spec_ComputeMAC (w : World) (v : Value) (s : Int) (x : List Int) (hs : -9223372036854775808 ≤ s ∧ s ≤ 9223372036854775807) (h : (Ty.sl .int).rd w [v] x) (hx : x.length ≤ 1099511627776) :
  Calls Try.prog 131 #[.int .i64 s, v] w (RetI w (mac s x)) := by
 obtain ⟨A, c, rfl, hc, hm, hn⟩ := Ty.rd_sl h
 have HS0 := Lib.hid (Row.lit1 flatI w 3 s (okI hs.1 hs.2) (Nat.le_refl _))
 go_enter Try.func131, Try.ntmps131
 set_option maxRecDepth 100000 in go_wp2_with (at_builtin; go_loud (refine wpList_append_row rfl _ _ 92 rfl flatI w.heap.size 3 infoI rfl Try.underlying92 _ _ [s] x rfl rfl HS0.out (Ty.rd_below b_5 h) ?_ ?_ ?_ ?_))
 case refine_1 => simp only [List.length_cons, List.length_nil]; omega
 case refine_2 => simp only [List.length_cons, List.length_nil]; unfold maxLen; omega
 case refine_3 => simp only [World.size_alloc]; omega
 intro v1 w1 hr1 hg1
 have hb1 : Below w.heap.size w w1 := bel_grown b_5 b_21 hg1 (fun g hg => by simp [Value.ownBlock] at hg; omega)
 have HR1 := Lib.hid hr1
 clear hr1
 have HS1 := Lib.hid (Row.lit1 flatI w1 3 s (okI hs.1 hs.2) (Nat.le_refl _))
 have hz1 := hb1.size
 set_option maxRecDepth 100000 in go_wp2_with (at_builtin; go_loud (refine wpList_append_row rfl _ _ 92 rfl flatI w.heap.size 3 infoI rfl Try.underlying92 _ _ ([s] ++ x) [s] rfl rfl (HR1.out.below b_5) (HS1.out.rd b_21) ?_ ?_ ?_ ?_))
 case refine_1 => simp only [List.length_append, List.length_cons, List.length_nil]; omega
 case refine_2 => simp only [List.length_append, List.length_cons, List.length_nil]; unfold maxLen; omega
 case refine_3 => simp only [World.size_alloc]; omega
 intro v2 w2 hr2 hg2
 have hb2 : Below w.heap.size w w2 := bel_grown (bel_alloc hb1 _) b_21 hg2 (fun g hg => (HR1.out.block g hg).1)
 have HR2 := Lib.hid hr2
 clear hr2
 go_wp2_with fail
 refine (C_spec_Digest _ _ (s :: (x ++ [s])) (HR2.out.rd hb2.size)).mono ?_
 rintro e w3 ⟨rfl, hb3⟩
 have hw3 : Below w.heap.size w w3 := bel_trans hb2 hb3
 go_wp2
 go_ret
 exact ⟨rfl, hw3⟩
end Go.Proofs.Ytldgbnlcnlfmeaa
namespace Go.Proofs.Ytldgbnlcnlfmeaa
open Go.RowKit
set_option linter.unusedVariables false
set_option linter.unusedSimpArgs false
set_option maxHeartbeats 1000000 in
theorem C_slices_Grow_int (w : World) (n : Nat) (h0 : 0 < n) (hn : n ≤ 1099511627776) : Calls Try.prog 168 #[.slice none 0 0, .int .i64 n] w (RetRow flatI w 3 []) := by
 obtain ⟨i, hi, hzz⟩ := Option.map_eq_some_iff.1 infoI
 simp only [Prod.mk.injEq] at hzz
 obtain ⟨hz, hsz, hby⟩ := hzz
 have hap := Lib.run_append_nil_zeros (P := Try.prog) w 92 3 92 3 i (.int .i64 0) .i64 .i64 Try.underlying92 Try.underlying3 hi hz n h0 b_29 b_29 (by rw [hby]; omega)
 have hge := grownCap_ge w n 0 3
 have hle := grownCap_le_maxLen w n 0 3 (by unfold maxLen; omega)
 generalize grownCap w n 0 3 = cap at hap hge hle
 have hrow : Row flatI (w.drew.alloc (.cells (Builtin.zeroCells (Value.int .i64 0).cells n ++ Builtin.zeroCells (Value.int .i64 0).cells (cap - n)) 3)) w.heap.size 3 (.slice (some ⟨w.heap.size, 0, none⟩) 0 cap) [] :=
  ⟨⟨rfl, .inr ⟨w.heap.size, cap, _, rfl, Nat.le_refl _, heap_alloc_new w.drew _, Nat.zero_le _, hle, by rw [Array.size_append, size_zeroCells, size_zeroCells]; simp [Value.cells]; omega, rfl⟩⟩, fun d hd => absurd hd b_30⟩
 have HROW := Lib.hid hrow
 have HAP := Lib.hid hap
 clear hrow hap hi hz hsz hby
 have hnz : (0 : Int) < n := by omega
 have hcap : (cap : Int) ≤ 9223372036854775807 := by unfold maxLen at hle; omega
 go_enter Try.func168, Try.ntmps168
 set_option maxRecDepth 100000 in go_wp2_with (at_builtin; go_loud (refine Lib.wpList_append_run _ rfl _ _ _ _ rfl _ _ rfl rfl _ _ HAP.out ?_))
 have hbel : Below w.heap.size w (w.drew.alloc (.cells (Builtin.zeroCells (Value.int .i64 0).cells n ++ Builtin.zeroCells (Value.int .i64 0).cells (cap - n)) 3)) := bel_alloc (bel_drew (Below.refl _ _)) _
 go_wp2
 go_ret
 exact ⟨_, rfl, HROW.out, hbel⟩
theorem flatten_take {α : Type} (xs : List (List α)) {k : Nat} (h : k < xs.length) : (xs.take (k + 1)).flatten = (xs.take k).flatten ++ xs[k] := by
 rw [List.take_succ_eq_append_getElem h, List.flatten_append]; simp
theorem sum_take_le {α : Type} (f : α → Nat) (xs : List α) (k : Nat) : ((xs.take k).map f).sum ≤ (xs.map f).sum := by
 rw [← List.take_append_drop k xs, List.map_append, List.sum_append, List.take_append_drop]; omega
set_option maxHeartbeats 1000000 in
theorem C_slices_Concat_int (w : World) (v : Value) (xs : List (List Int)) (h : (Ty.sl (.sl .int)).rd w [v] xs) (h0 : 0 < (xs.map List.length).sum) (hx : (xs.map List.length).sum ≤ 1099511627776) :
  Calls Try.prog 134 #[v] w (RetRow flatI w 3 xs.flatten) := by
 obtain ⟨A, c, rfl, hc, hm, hn⟩ := Ty.rd_sl h
 go_enter Try.func134, Try.ntmps134
 go_wp2
 go_loopw [3, 11] (fun s i wr => ∃ k : Nat, k ≤ xs.length ∧ i = .int .i64 k ∧ s = .int .i64 (((xs.take k).map List.length).sum : Nat) ∧ wr = w) (fun _ i _ => xs.length - (intOf i).toNat)
 case atStart => exact ⟨0, by omega, rfl, by simp, rfl⟩
 case round =>
  obtain ⟨k, hk, rfl, rfl, hwr⟩ := hrel
  obtain rfl : w = wr := hwr.symm
  clear hwr
  by_cases hlt : k < xs.length
  ·obtain ⟨b, o, ds, rfl, hl, hcell, hrd⟩ := Ty.rd_at h hlt
   obtain ⟨A1, c1, rfl⟩ := Ty.rd_slv hrd
   have e0 : w.cell? ⟨b, o + k, none⟩ = some (.slice A1 (List.length xs[k]) c1) := by simpa [Ty.sz] using hcell 0 b_28
   clear hcell hl
   have HS := Lib.hid (sum_take_succ List.length xs hlt)
   have hb1 := sum_take_le List.length xs (k + 1)
   rw [HS.out] at hb1
   generalize ((xs.take k).map List.length).sum = s at HS hb1 ⊢
   go_wp2
   go_roundw
   case rel => exact ⟨k + 1, by omega, by go_num, by rw [HS.out]; go_num, by first | rfl | trivial⟩
   case measure => simp [intOf]; omega
  ·have hE : (xs.take k).map List.length = xs.map List.length := by rw [List.take_of_length_le b_29]
   rw [hE]
   clear hE
   generalize hT : (xs.map List.length).sum = T at h0 hx ⊢
   have HT := Lib.hid hT
   clear hT
   go_wp2_with fail
   refine (C_slices_Grow_int _ T h0 hx).mono ?_
   rintro e w1 ⟨v1, rfl, hr1, hb1⟩
   have HR1 := Lib.hid hr1
   clear hr1
   go_wp2
   go_loopw [6, 27] (fun l i wr2 => ∃ k : Nat, k ≤ xs.length ∧ i = .int .i64 k ∧ Row flatI wr2 w.heap.size 3 l (xs.take k).flatten ∧ Below w.heap.size w wr2) (fun _ i _ => xs.length - (intOf i).toNat)
   case atStart => exact ⟨0, by omega, rfl, HR1.out, hb1⟩
   case round =>
    obtain ⟨k2, hk2, rfl, hr, hb⟩ := hrel
    have HR := Lib.hid hr
    clear hr
    by_cases hlt2 : k2 < xs.length
    ·obtain ⟨b, o, ds, rfl, hl, hcell, hrd⟩ := Ty.rd_at (Ty.rd_below hb h) hlt2
     obtain ⟨A1, c1, rfl⟩ := Ty.rd_slv hrd
     have e0 : wr.cell? ⟨b, o + k2, none⟩ = some (Value.slice A1 (List.length xs[k2]) c1) := by simpa [Ty.sz] using hcell 0 b_28
     clear hcell hl
     have HP := Lib.hid (flatten_take xs hlt2)
     have HS := Lib.hid (sum_take_succ List.length xs hlt2)
     have HB := Lib.hid (sum_take_le List.length xs (k2 + 1))
     have HL := Lib.hid (show ((xs.take k2).flatten).length = ((xs.take k2).map List.length).sum from by rw [List.length_flatten])
     set_option maxRecDepth 100000 in go_wp2_with (at_builtin; go_loud (refine wpList_append_row rfl _ _ 92 rfl flatI w.heap.size 3 infoI rfl Try.underlying92 _ _ (xs.take k2).flatten xs[k2] rfl rfl HR.out hrd ?_ ?_ ?_ ?_))
     case refine_1 => have h1 := HS.out; have h2 := HB.out; have h3 := HL.out; have h4 := HT.out; omega
     case refine_2 => have h1 := HS.out; have h2 := HB.out; have h3 := HL.out; have h4 := HT.out; unfold maxLen; omega
     case refine_3 => exact hb.size
     case refine_4 =>
      intro v' w' hr' hg'
      have hb' : Below w.heap.size w w' := bel_grown hb hb.size hg' (fun g hg => (HR.out.block g hg).1)
      have HR' := Lib.hid hr'
      clear hr'
      go_wp2
      go_roundw
      case rel => exact ⟨k2 + 1, by omega, by go_num, by rw [HP.out]; exact HR'.out, hb'⟩
      case measure => simp [intOf]; omega
    ·have HE : Hid ((xs.take k2).flatten = xs.flatten) := by rw [List.take_of_length_le b_29]; exact rfl
     go_wp2
     go_ret
     exact ⟨_, rfl, by rw [← HE.out]; exact HR.out, hb⟩
theorem rd_lit3 (w : World) (te : TypeId) {e : Ty} (hz : e.sz = 1) (a b c : Value) (x y z : e.D) (h1 : e.rd w [a] x) (h2 : e.rd w [b] y) (h3 : e.rd w [c] z) :
  (Ty.sl e).rd (w.alloc (.cells #[a, b, c] te)) [.slice (some ⟨w.heap.size, 0, none⟩) 3 3] [x, y, z] := by
 have hb : Below w.heap.size w (w.alloc (.cells #[a, b, c] te)) := bel_alloc (Below.refl _ _) _
 refine ⟨_, _, rfl, Nat.le_refl _, ⟨by unfold maxLen; omega, fun h => by cases h⟩, by show 3 ≤ _; omega, fun _ => ⟨w.heap.size, 0, rfl, fun i hi => ?_⟩⟩
 have hi3 : i < 3 := hi
 have hc : ∀ j, (w.alloc (.cells #[a, b, c] te)).cell? ⟨w.heap.size, j, none⟩ = #[a, b, c][j]? := fun j => cell_new w te _ j rfl
 rcases i with _ | _ | _ | i
 ·refine ⟨[a], by rw [hz]; rfl, fun j hj => ?_, Ty.rd_below hb h1⟩
  rw [hz] at hj
  obtain rfl : j = 0 := by omega
  rw [hc, hz]
  rfl
 ·refine ⟨[b], by rw [hz]; rfl, fun j hj => ?_, Ty.rd_below hb h2⟩
  rw [hz] at hj
  obtain rfl : j = 0 := by omega
  rw [hc, hz]
  rfl
 ·refine ⟨[c], by rw [hz]; rfl, fun j hj => ?_, Ty.rd_below hb h3⟩
  rw [hz] at hj
  obtain rfl : j = 0 := by omega
  rw [hc, hz]
  rfl
 ·omega
set_option maxHeartbeats 1000000 in
theorem C_impl_ComputeMAC (w : World) (v : Value) (s : Int) (x : List Int) (hs : -9223372036854775808 ≤ s ∧ s ≤ 9223372036854775807) (h : (Ty.sl .int).rd w [v] x) (hx : x.length ≤ 1000000000000) :
  Calls Try.prog 130 #[.int .i64 s, v] w (RetI w (mac s x)) := by
 obtain ⟨A, c, rfl, hc, hm, hn⟩ := Ty.rd_sl h
 have H1 := Ty.rd_below (w' := (w.alloc (.cells #[.int .i64 s] 3)).alloc (.cells #[.int .i64 s] 3)) (bel_alloc (Below.refl _ _) _) ((Row.lit1 flatI w 3 s (okI hs.1 hs.2) (Nat.le_refl _)).rd b_20)
 have H2 := (Row.lit1 flatI (w.alloc (.cells #[.int .i64 s] 3)) 3 s (okI hs.1 hs.2) (Nat.le_refl _)).rd b_20
 have H3 := rd_lit3 ((w.alloc (.cells #[.int .i64 s] 3)).alloc (.cells #[.int .i64 s] 3)) 92 (e := .sl .int) rfl _ _ _ [s] x [s] H1 (Ty.rd_below (bel_alloc (bel_alloc (Below.refl _ _) _) _) h) H2
 simp only [World.size_alloc] at H3
 have HR := Lib.hid H3
 clear H1 H2 H3
 go_enter Try.func130, Try.ntmps130
 go_wp2_with fail
 refine (C_slices_Concat_int _ _ [[s], x, [s]] HR.out (by simp only [List.map_cons, List.map_nil, List.sum_cons, List.sum_nil, List.length_cons, List.length_nil]; omega) (by simp only [List.map_cons, List.map_nil, List.sum_cons, List.sum_nil, List.length_cons, List.length_nil]; omega)).mono ?_
 rintro e w1 ⟨v1, rfl, hr1, hb1⟩
 have hw1 : Below w.heap.size w w1 := bel_trans b_5 hb1
 have HR1 := Lib.hid hr1
 clear hr1
 go_wp2_with fail
 refine (C_impl_Digest _ _ _ (HR1.out.rd hb1.size)).mono ?_
 rintro e w2 ⟨rfl, hb2⟩
 have hw2 : Below w.heap.size w w2 := bel_trans hw1 hb2
 go_wp2
 go_ret
 exact ⟨ret_int (by unfold mac; simp), hw2⟩
def f_FreshAt (x : tData.D) (a : Int) : Bool := decide (a ≤ x.2.2.2.1)
set_option maxHeartbeats 400000 in
theorem C_spec_FreshAt (w : World) (cs : List Value) (x : tData.D) (a : Int) (h : tData.rd w cs x) (s0 : Ty.bulk tData x ≤ 1048576) (i1 : -9223372036854775808 ≤ a ∧ a ≤ 9223372036854775807) :
  Calls Try.prog 60 #[.agg cs.toArray, .int .i64 a] w (RetB w (f_FreshAt x a)) := by
 obtain ⟨A00, c00, A01, c01, A02, c02, rfl, _, _, _, _, _⟩ := rd_Data h
 go_enter Try.func60, Try.ntmps60
 go_wp2
 go_ret
 exact ⟨rfl, b_5⟩
set_option maxHeartbeats 400000 in
theorem C_impl_FreshAt (w : World) (cs : List Value) (x : tData.D) (a : Int) (h : tData.rd w cs x) (s0 : Ty.bulk tData x ≤ 1048576) (i1 : -9223372036854775808 ≤ a ∧ a ≤ 9223372036854775807) :
  Calls Try.prog 43 #[.agg cs.toArray, .int .i64 a] w (RetB w (f_FreshAt x a)) := by
 obtain ⟨A00, c00, A01, c01, A02, c02, rfl, _, _, _, _, _⟩ := rd_Data h
 go_enter Try.func43, Try.ntmps43
 go_wp2
 go_ret
 exact ⟨rfl, b_5⟩
def f_EqualData (x y : tData.D) : Bool := decide (x.1 = y.1) && (decide (x.2.1 = y.2.1) && (decide (x.2.2.1 = y.2.2.1) && (decide (x.2.2.2.1 = y.2.2.2.1) && decide (x.2.2.2.2 = y.2.2.2.2))))
set_option maxHeartbeats 1000000 in
theorem C_impl_EqualNames (w : World) (cs1 cs2 : List Value) (x y : List (List UInt8)) (h1 : (Ty.sl .str).rd w cs1 x) (h2 : (Ty.sl .str).rd w cs2 y) :
  Calls Try.prog 74 #[.agg cs1.toArray, .agg cs2.toArray] w (RetB w (decide (x = y))) := by
 obtain ⟨A1, c1, rfl⟩ := Ty.rd_slv h1
 obtain ⟨A2, c2, rfl⟩ := Ty.rd_slv h2
 go_enter Try.func74, Try.ntmps74
 go_wp2_with fail
 refine (C_slices_Equal_str _ _ _ x y (Ty.rd_below b_5 h1) (Ty.rd_below b_5 h2)).mono ?_
 rintro e w1 ⟨rfl, hb1⟩
 have hw1 : Below w.heap.size w w1 := bel_trans b_5 hb1
 go_wp2
 go_ret
 exact ⟨rfl, hw1⟩
set_option maxHeartbeats 1000000 in
theorem C_slices_Equal_byte (w : World) (v1 v2 : Value) (x y : List UInt8) (h1 : (Ty.sl .byte).rd w [v1] x) (h2 : (Ty.sl .byte).rd w [v2] y) :
  Calls Try.prog 89 #[v1, v2] w (RetB w (decide (x = y))) := by
 obtain ⟨A1, c1, rfl, hc1, hm1, hn1⟩ := Ty.rd_sl h1
 obtain ⟨A2, c2, rfl, hc2, hm2, hn2⟩ := Ty.rd_sl h2
 by_cases hl : x.length = y.length
 ·have q1 : ((x.length : Int) != y.length) = false := by simp [hl]
  have HL := Lib.hid hl
  clear hl
  go_enter Try.func89, Try.ntmps89
  go_wp2
  go_loopw [13] (fun i wr => ∃ k : Nat, k ≤ x.length ∧ i = .int .i64 k ∧ x.take k = y.take k ∧ Below w.heap.size w wr) (fun i _ => x.length - (intOf i).toNat)
  case atStart => exact ⟨0, by omega, rfl, rfl, Below.refl _ _⟩
  case round =>
   obtain ⟨k, hk, rfl, htk, hb⟩ := hrel
   have HT := Lib.hid htk
   clear htk
   by_cases hlt : k < x.length
   ·have hlt2 : k < y.length := by have := HL.out; omega
    obtain ⟨b1, o1, rfl, e1⟩ := Ty.rd_byte_at (Ty.rd_below hb h1) hlt
    obtain ⟨b2, o2, rfl, e2⟩ := Ty.rd_byte_at (Ty.rd_below hb h2) hlt2
    by_cases he : x[k] = y[k]
    ·have q2 : ((x[k].toNat : Int) != y[k].toNat) = false := by simp [he]
     have HE := Lib.hid he
     clear he
     go_wp2
     go_quiet (fail)
     go_wp2
     go_roundw
     case rel => exact ⟨k + 1, by omega, by go_num, by rw [List.take_succ_eq_append_getElem hlt, List.take_succ_eq_append_getElem hlt2, HT.out, HE.out], bel_drewN hb _⟩
     case measure => simp [intOf]; omega
    ·have q2 : ((x[k].toNat : Int) != y[k].toNat) = true := by
      rw [bne_iff_ne]
      intro h
      exact he (UInt8.toNat_inj.1 b_29)
     have HE : Hid (¬ x = y) := fun h => he (by subst h; rfl)
     clear he
     go_wp2
     go_quiet (fail)
     go_wp2
     go_ret
     exact ⟨ret_bool (by simp [HE.out]), bel_drewN hb _⟩
   ·have HE : Hid (x = y) := by
     have h1 := HT.out
     rwa [List.take_of_length_le b_29, List.take_of_length_le (by have := HL.out; omega)] at h1
    go_wp2
    go_ret
    exact ⟨ret_bool (by simp [HE.out]), hb⟩
 ·have q1 : ((x.length : Int) != y.length) = true := by rw [bne_iff_ne]; omega
  have HE : Hid (¬ x = y) := fun h => hl (congrArg List.length h)
  go_enter Try.func89, Try.ntmps89
  go_wp2
  go_ret
  exact ⟨ret_bool (by simp [HE.out]), Below.refl _ _⟩
set_option maxHeartbeats 1000000 in
theorem C_impl_EqualData (w : World) (cs1 : List Value) (x : tData.D) (cs2 : List Value) (y : tData.D) (h1 : tData.rd w cs1 x) (h2 : tData.rd w cs2 y) (s0 : Ty.bulk tData x ≤ 1048576) (s1 : Ty.bulk tData y ≤ 1048576) :
  Calls Try.prog 59 #[.agg cs1.toArray, .agg cs2.toArray] w (RetB w (f_EqualData x y)) := by
 obtain ⟨A0, c0, A1, c1, A2, c2, rfl, g0, g1, g2, _, _⟩ := rd_Data h1
 obtain ⟨B0, d0, B1, d1, B2, d2, rfl, k0, k1, k2, _, _⟩ := rd_Data h2
 go_enter Try.func59, Try.ntmps59
 go_wp2_with fail
 refine (C_impl_EqualNames _ _ _ _ _ (Ty.rd_below b_5 g0) (Ty.rd_below b_5 k0)).mono ?_
 rintro e w1 ⟨rfl, hb1⟩
 have hw1 : Below w.heap.size w w1 := bel_trans b_5 hb1
 obtain ⟨hc1, hf1⟩ := bcell hb1
 have z10 : w.heap.size < w1.heap.size := by have := hb1.size; simp only [World.size_alloc] at this; omega
 have z11 : w.heap.size + 1 < w1.heap.size := by have := hb1.size; simp only [World.size_alloc] at this; omega
 cases hq0 : decide (x.1 = y.1)
 ·go_wp2
  go_ret
  exact ⟨ret_bool (by unfold f_EqualData; rw [hq0]; rfl), hw1⟩
 go_wp2_with fail
 refine (C_slices_Equal_byte _ _ _ x.2.1 y.2.1 (Ty.rd_below b_5 g1) (Ty.rd_below b_5 k1)).mono ?_
 rintro e w2 ⟨rfl, hb2⟩
 have hw2 : Below w.heap.size w w2 := bel_trans b_5 hb2
 obtain ⟨hc2, hf2⟩ := bcell hb2
 have z20 : w.heap.size < w2.heap.size := by have := hb2.size; omega
 have z21 : w.heap.size + 1 < w2.heap.size := by have := hb2.size; omega
 cases hq1 : decide (x.2.1 = y.2.1)
 ·go_wp2
  go_ret
  exact ⟨ret_bool (by unfold f_EqualData; rw [hq0, hq1]; rfl), hw2⟩
 go_wp2_with fail
 refine (C_impl_EqualNames _ _ _ _ _ (Ty.rd_below b_5 g2) (Ty.rd_below b_5 k2)).mono ?_
 rintro e w3 ⟨rfl, hb3⟩
 have hw3 : Below w.heap.size w w3 := bel_trans b_5 hb3
 obtain ⟨hc3, hf3⟩ := bcell hb3
 cases hq2 : decide (x.2.2.1 = y.2.2.1)
 ·go_wp2
  go_ret
  exact ⟨ret_bool (by unfold f_EqualData; rw [hq0, hq1, hq2]; rfl), hw3⟩
 cases hq3 : (x.2.2.2.1 == y.2.2.2.1)
 ·go_wp2
  go_ret
  exact ⟨ret_bool (by unfold f_EqualData; rw [hq0, hq1, hq2, show decide (x.2.2.2.1 = y.2.2.2.1) = false from by simpa using hq3]; rfl), hw3⟩
 go_wp2
 go_ret
 exact ⟨ret_bool (by unfold f_EqualData; rw [hq0, hq1, hq2, show decide (x.2.2.2.1 = y.2.2.2.1) = true from by simpa using hq3]; (rw [Bool.eq_iff_iff]; simp)), hw3⟩
def f_ValidData (x : tData.D) : Bool := validName x.1 && (decide (0 < x.1.length) && (decide (x.2.1.length ≤ 60) && (validName x.2.2.1 && (inR x.2.2.2.1 0 100000 && inR x.2.2.2.2 0 2147483646))))
set_option maxHeartbeats 1000000 in
theorem C_spec_ValidDataG (w : World) (cs1 : List Value) (x : tData.D) (h1 : tData.rd w cs1 x) :
  Calls Try.prog 61 #[.agg cs1.toArray] w (RetB w (f_ValidData x)) := by
 obtain ⟨A0, c0, A1, c1, A2, c2, rfl, g0, g1, g2, b3, b4⟩ := rd_Data h1
 obtain ⟨_, _, _, _, _, n0⟩ := Ty.rd_sl g0
 obtain ⟨_, _, _, _, _, n1⟩ := Ty.rd_sl g1
 obtain ⟨_, _, _, _, _, n2⟩ := Ty.rd_sl g2
 have hF : f_ValidData x = (validName x.1 && (decide (0 < x.1.length) && (decide (x.2.1.length ≤ 60) && (validName x.2.2.1 && (inR x.2.2.2.1 0 100000 && inR x.2.2.2.2 0 2147483646))))) := rfl
 generalize f_ValidData x = F at hF ⊢
 have HF := Lib.hid hF
 clear hF
 go_enter Try.func61, Try.ntmps61
 go_wp2_with fail
 refine (C_spec_ValidName _ _ _ (Ty.rd_below b_5 g0)).mono ?_
 rintro e w1 ⟨rfl, hb1⟩
 have hw1 : Below w.heap.size w w1 := bel_trans b_5 hb1
 obtain ⟨hc1, hf1⟩ := bcell hb1
 have z10 : w.heap.size < w1.heap.size := by have := hb1.size; simp only [World.size_alloc] at this; omega
 cases q0 : validName x.1
 ·rw [q0] at HF
  go_wp2
  go_ret
  exact ⟨ret_bool (by rw [HF.out]; rfl), hw1⟩
 rw [q0] at HF
 by_cases hl1 : 0 < x.1.length
 rotate_left
 ·have H1 := Lib.hid hl1
  go_wp2
  go_ret
  exact ⟨ret_bool (by rw [HF.out]; simp [H1.out]), hw1⟩
 have H1 := Lib.hid hl1
 by_cases hl2 : x.2.1.length ≤ 60
 rotate_left
 ·have H2 := Lib.hid hl2
  go_wp2
  go_ret
  exact ⟨ret_bool (by rw [HF.out]; simp [H2.out]), hw1⟩
 have H2 := Lib.hid hl2
 go_wp2_with fail
 refine (C_spec_ValidName _ _ _ (Ty.rd_below b_5 g2)).mono ?_
 rintro e w2 ⟨rfl, hb2⟩
 have hw2 : Below w.heap.size w w2 := bel_trans b_5 hb2
 obtain ⟨hc2, hf2⟩ := bcell hb2
 have z20 : w.heap.size < w2.heap.size := by have := hb2.size; omega
 cases q3 : validName x.2.2.1
 ·rw [q3] at HF
  go_wp2
  go_ret
  exact ⟨ret_bool (by rw [HF.out]; simp), hw2⟩
 rw [q3] at HF
 go_wp2_with fail
 refine (C_spec_l1In _ _ _ _).mono ?_
 rintro e w3 ⟨rfl, rfl⟩
 cases q4 : inR x.2.2.2.1 0 100000
 ·rw [q4] at HF
  go_wp2
  go_ret
  exact ⟨ret_bool (by rw [HF.out]; simp), hw2⟩
 rw [q4] at HF
 go_wp2_with fail
 refine (C_spec_l1In _ _ _ _).mono ?_
 rintro e w4 ⟨rfl, rfl⟩
 go_wp2
 go_ret
 exact ⟨ret_bool (by rw [HF.out]; simp [H1.out, H2.out]), hw2⟩
theorem C_spec_ValidData (w : World) (cs1 : List Value) (x : tData.D) (h1 : tData.rd w cs1 x) (s0 : Ty.bulk tData x ≤ 1048576) :
  Calls Try.prog 61 #[.agg cs1.toArray] w (RetB w (f_ValidData x)) := C_spec_ValidDataG w cs1 x h1
set_option maxHeartbeats 1000000 in
theorem C_impl_ValidDataG (w : World) (cs1 : List Value) (x : tData.D) (h1 : tData.rd w cs1 x) :
  Calls Try.prog 42 #[.agg cs1.toArray] w (RetB w (f_ValidData x)) := by
 obtain ⟨A0, c0, A1, c1, A2, c2, rfl, g0, g1, g2, b3, b4⟩ := rd_Data h1
 obtain ⟨_, _, _, _, _, n0⟩ := Ty.rd_sl g0
 obtain ⟨_, _, _, _, _, n1⟩ := Ty.rd_sl g1
 obtain ⟨_, _, _, _, _, n2⟩ := Ty.rd_sl g2
 have hF : f_ValidData x = (validName x.1 && (decide (0 < x.1.length) && (decide (x.2.1.length ≤ 60) && (validName x.2.2.1 && (inR x.2.2.2.1 0 100000 && inR x.2.2.2.2 0 2147483646))))) := rfl
 generalize f_ValidData x = F at hF ⊢
 have HF := Lib.hid hF
 clear hF
 go_enter Try.func42, Try.ntmps42
 go_wp2_with fail
 refine (C_impl_ValidName _ _ _ (Ty.rd_below b_5 g0)).mono ?_
 rintro e w1 ⟨rfl, hb1⟩
 have hw1 : Below w.heap.size w w1 := bel_trans b_5 hb1
 obtain ⟨hc1, hf1⟩ := bcell hb1
 have z10 : w.heap.size < w1.heap.size := by have := hb1.size; simp only [World.size_alloc] at this; omega
 cases q0 : validName x.1
 ·rw [q0] at HF
  go_wp2
  go_ret
  exact ⟨ret_bool (by rw [HF.out]; rfl), hw1⟩
 rw [q0] at HF
 by_cases hl1 : 0 < x.1.length
 rotate_left
 ·have H1 := Lib.hid hl1
  go_wp2
  go_ret
  exact ⟨ret_bool (by rw [HF.out]; simp [H1.out]), hw1⟩
 have H1 := Lib.hid hl1
 by_cases hl2 : x.2.1.length ≤ 60
 rotate_left
 ·have H2 := Lib.hid hl2
  go_wp2
  go_ret
  exact ⟨ret_bool (by rw [HF.out]; simp [H2.out]), hw1⟩
 have H2 := Lib.hid hl2
 go_wp2_with fail
 refine (C_impl_ValidName _ _ _ (Ty.rd_below b_5 g2)).mono ?_
 rintro e w2 ⟨rfl, hb2⟩
 have hw2 : Below w.heap.size w w2 := bel_trans b_5 hb2
 obtain ⟨hc2, hf2⟩ := bcell hb2
 have z20 : w.heap.size < w2.heap.size := by have := hb2.size; omega
 cases q3 : validName x.2.2.1
 ·rw [q3] at HF
  go_wp2
  go_ret
  exact ⟨ret_bool (by rw [HF.out]; simp), hw2⟩
 rw [q3] at HF
 go_wp2_with fail
 refine (C_impl_InRange _ _ _ _).mono ?_
 rintro e w3 ⟨rfl, rfl⟩
 cases q4 : inR x.2.2.2.1 0 100000
 ·rw [q4] at HF
  go_wp2
  go_ret
  exact ⟨ret_bool (by rw [HF.out]; simp), hw2⟩
 rw [q4] at HF
 go_wp2_with fail
 refine (C_impl_InRange _ _ _ _).mono ?_
 rintro e w4 ⟨rfl, rfl⟩
 go_wp2
 go_ret
 exact ⟨ret_bool (by rw [HF.out]; simp [H1.out, H2.out]), hw2⟩
theorem C_impl_ValidData (w : World) (cs1 : List Value) (x : tData.D) (h1 : tData.rd w cs1 x) (s0 : Ty.bulk tData x ≤ 1048576) :
  Calls Try.prog 42 #[.agg cs1.toArray] w (RetB w (f_ValidData x)) := C_impl_ValidDataG w cs1 x h1
theorem rd_empty (w : World) {e : Ty} (A : Option Addr) : (Ty.sl e).rd w [.slice A 0 0] [] := ⟨A, 0, rfl, Nat.le_refl _, ⟨Nat.zero_le _, fun _ => rfl⟩, by simp, fun h => absurd h b_30⟩
end Go.Proofs.Ytldgbnlcnlfmeaa
