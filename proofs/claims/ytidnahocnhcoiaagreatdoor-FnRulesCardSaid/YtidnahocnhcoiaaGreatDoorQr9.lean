/- Texts of this claim, merged by a program: Mtc Ral Rbk Lat. -/
import Derived.Test.YtidnahocnhcoiaaGreatDoorQrP
import Derived.Test.YtidnahocnhcoiaaGreatDoorQr8
import Derived.Test.YtidnahocnhcoiaaGreatDoorQr6
import Derived.Test.YtidnahocnhcoiaaGreatDoorQr2
import Derived.Test.YtidnahocnhcoiaaGreatDoorQr1
import Derived.BigQuiet
namespace Go.Proofs.YtidnahocnhcoiaaGreatDoor
open Go.RowKit
set_option linter.unusedVariables false
set_option linter.unusedSimpArgs false
set_option maxRecDepth 100000 in
set_option maxHeartbeats 8000000 in
theorem C_spec_Match (w : World) (cs1 : List Value) (p : List (List UInt8)) (cs2 : List Value) (n : List (List UInt8)) (v3 : Value) (l : List (Ty.D tBinding)) (h1 : (Ty.sl .str).rd w cs1 p) (h2 : (Ty.sl .str).rd w cs2 n) (h3 : (Ty.sl tBinding).rd w [v3] l) (hll : l.length ≤ 1000000) :
  Calls Tryz.prog 40 #[.agg cs1.toArray, .agg cs2.toArray, v3] w (RetBs w (f_Match p n l)) := by
 obtain ⟨A1, c1, rfl⟩ := Ty.rd_slv h1
 obtain ⟨A2, c2, rfl⟩ := Ty.rd_slv h2
 obtain ⟨A3, c3, rfl, _, _, _⟩ := Ty.rd_sl h3
 obtain ⟨_, _, _, _, _, m1⟩ := Ty.rd_sl h1
 obtain ⟨_, _, _, _, _, m2⟩ := Ty.rd_sl h2
 have kb1 : ((w.alloc (.cells #[.slice A1 p.length c1] 26)).alloc (.cells #[.slice A2 n.length c2] 29)).cell? ⟨w.heap.size, 0, none⟩ = some (.slice A1 p.length c1) := (World.cell?_alloc_lt _ _ _ b_14).trans (cell_new w _ _ 0 rfl)
 have kb2 : ((w.alloc (.cells #[.slice A1 p.length c1] 26)).alloc (.cells #[.slice A2 n.length c2] 29)).cell? ⟨w.heap.size + 1, 0, none⟩ = some (.slice A2 n.length c2) := cell_new _ _ _ 0 (by simp only [World.size_alloc])
 have hvb : Below w.heap.size w ((w.alloc (.cells #[.slice A1 p.length c1] 26)).alloc (.cells #[.slice A2 n.length c2] 29)) := b_2
 have zb : ((w.alloc (.cells #[.slice A1 p.length c1] 26)).alloc (.cells #[.slice A2 n.length c2] 29)).heap.size = w.heap.size + 1 + 1 := by simp only [World.size_alloc]
 have hl0 : DRow tBinding (((w.alloc (.cells #[.slice A1 p.length c1] 26)).alloc (.cells #[.slice A2 n.length c2] 29)).alloc (.cells #[] 83)) (w.heap.size + 1 + 1) 83 (.slice (some ⟨w.heap.size + 1 + 1, 0, none⟩) 0 0) [] := by
  have := DRow.lit0 tBinding ((w.alloc (.cells #[.slice A1 p.length c1] 26)).alloc (.cells #[.slice A2 n.length c2] 29)) 83 (base := w.heap.size + 1 + 1) b_14
  simp only [World.size_alloc] at this
  exact this
 have HL0 := Lib.hid hl0
 clear hl0
 have HKB := Lib.hid (And.intro kb1 (And.intro kb2 zb))
 clear kb1 kb2 zb
 go_enter Tryz.func40, Tryz.ntmps40
 set_option maxRecDepth 100000 in go_wp2_with (at_builtin; go_loud (refine wpList_append_drow rfl _ _ 62 rfl (((w.alloc (.cells #[.slice A1 p.length c1] 26)).alloc (.cells #[.slice A2 n.length c2] 29)).alloc (.cells #[] 83)) (w.heap.size + 1 + 1) 83 info_Binding rfl Tryz.underlying62 _ _ [] l rfl rfl HL0.out (Below.refl _ _) (Src.flat rfl (Ty.rd_below b_2 h3) _) ?_ ?_ ?_ ?_))
 case refine_1 => simp only [List.length_nil]; omega
 case refine_2 => simp only [List.length_nil]; unfold maxLen; omega
 case refine_3 => simp only [World.size_alloc]; omega
 intro v1 w1 hr1 hg1
 have hb1 : Below ((w.alloc (.cells #[.slice A1 p.length c1] 26)).alloc (.cells #[.slice A2 n.length c2] 29)).heap.size ((w.alloc (.cells #[.slice A1 p.length c1] 26)).alloc (.cells #[.slice A2 n.length c2] 29)) w1 := bel_grown (bel_alloc (Below.refl _ _) _) b_14 hg1 (fun g hg => by simp [Value.ownBlock] at hg; simp only [World.size_alloc]; omega)
 generalize ((w.alloc (.cells #[.slice A1 p.length c1] 26)).alloc (.cells #[.slice A2 n.length c2] 29)) = WX at hb1 HKB hvb hg1
 obtain ⟨kb1, kb2, zb0⟩ := HKB.out
 have zb : w.heap.size + 1 < WX.heap.size := by omega
 clear zb0
 have hw1 : Below w.heap.size w w1 := bel_trans hvb hb1
 have HRD : Hid ((Ty.sl tBinding).rd w1 [v1] l) := Lib.hid hr1.rd
 clear hr1 hg1 HL0 HKB
 have HC : Hid (∀ W, Below WX.heap.size WX W → W.cell? ⟨w.heap.size, 0, none⟩ = some (.slice A1 p.length c1) ∧ W.cell? ⟨w.heap.size + 1, 0, none⟩ = some (.slice A2 n.length c2)) := fun W hW => ⟨(hW.cell (p := ⟨w.heap.size, 0, none⟩) b_18).trans kb1, (hW.cell (p := ⟨w.heap.size + 1, 0, none⟩) b_18).trans kb2⟩
 clear kb1 kb2
 obtain ⟨j1, j2⟩ := HC.out _ hb1
 go_wp2_with fail
 refine (C_spec_ValidPattern _ _ _ (Ty.rd_below hw1 h1)).mono ?_
 rintro e w2 ⟨rfl, hb2⟩
 have hx2 : Below WX.heap.size WX w2 := bel_trans hb1 hb2
 have hw2 : Below w.heap.size w w2 := bel_trans hvb hx2
 clear j1 j2
 obtain ⟨j1, j2⟩ := HC.out _ hx2
 cases q0 : validPat p
 ·have HF := Lib.hid (f_Match_no (n := n) l (by rw [q0]; rfl))
  go_wp2
  go_ret2
  exact RetBs.mk HF.out (Ty.rd_below hb2 HRD.out) hw2
 go_wp2_with fail
 refine (C_spec_ValidName _ _ _ (Ty.rd_below hw2 h2)).mono ?_
 rintro e w3 ⟨rfl, hb3⟩
 have hx3 : Below WX.heap.size WX w3 := bel_trans hx2 hb3
 have hw3 : Below w.heap.size w w3 := bel_trans hvb hx3
 have h13 : Below w1.heap.size w1 w3 := bel_trans hb2 hb3
 clear j1 j2
 cases q1 : validName n
 ·have HF := Lib.hid (f_Match_no (p := p) l (by rw [q1]; cases validPat p <;> rfl))
  go_wp2
  go_ret2
  exact RetBs.mk HF.out (Ty.rd_below h13 HRD.out) hw3
 have HF := Lib.hid (f_Match_go l q0 q1)
 have hp6 := validPat_len q0
 clear q0 q1
 obtain ⟨j1, j2⟩ := HC.out _ hx3
 have HL1 := Lib.hid (DRow.lit0 tBinding w3 83 (Nat.le_refl _))
 set_option maxRecDepth 100000 in go_wp2_with (at_builtin; go_loud (refine wpList_append_drow rfl _ _ 62 rfl (w3.alloc (.cells #[] 83)) w3.heap.size 83 info_Binding rfl Tryz.underlying62 _ _ [] l rfl rfl HL1.out (Below.refl _ _) (Src.flat rfl (Ty.rd_below b_0 h3) _) ?_ ?_ ?_ ?_))
 case refine_1 => simp only [List.length_nil]; omega
 case refine_2 => simp only [List.length_nil]; unfold maxLen; omega
 case refine_3 => simp only [World.size_alloc]; omega
 intro v4 w4 hr4 hg4
 have hb4 : Below w3.heap.size w3 w4 := bel_grown (bel_alloc (Below.refl _ _) _) b_14 hg4 (fun g hg => by simp [Value.ownBlock] at hg; omega)
 have HR4 : Hid (DRow tBinding w4 w3.heap.size 83 v4 l) := Lib.hid hr4
 clear hr4 hg4 HL1 j1 j2
 obtain ⟨j1, j2⟩ := HC.out _ (bel_trans hx3 hb4)
 go_wp2
 go_loopw [9, 10] (fun out i wr => ∃ (k : Nat) (acc : List (Ty.D tBinding)), k ≤ p.length ∧ k ≤ n.length ∧ i = .int .i64 k ∧ DRow tBinding wr w3.heap.size 83 out acc ∧ acc.length ≤ l.length + k ∧ Hid (mGo (p.drop k) (n.drop k) acc = mGo p n l) ∧ Below w3.heap.size w3 wr) (fun _ i _ => p.length - (intOf i).toNat)
 case atStart => exact ⟨0, l, by omega, by omega, rfl, HR4.out, by omega, Lib.hid rfl, hb4⟩
 case round =>
  obtain ⟨k, acc, hk, hkn, rfl, hr, hal, hM, hb⟩ := hrel
  clear j1 j2
  obtain ⟨j1, j2⟩ := HC.out wr (bel_trans hx3 hb)
  have hw : Below w.heap.size w wr := bel_trans hw3 hb
  have h1r : Below w1.heap.size w1 wr := bel_trans h13 hb
  obtain ⟨Ao, co, hout⟩ := hr.form
  have hrd0 := hr.rd
  have HR := Lib.hid hr
  clear hr
  subst hout
  by_cases hlt : k < p.length
  ·obtain ⟨b, o, rfl, e0, n0⟩ := Ty.rd_str_at (Ty.rd_below hw h1) hlt
   by_cases hs : p[k] = [42, 42]
   ·have hs2 : (p[k] == [42, 42]) = true := by simp [hs]
    have HE := Lib.hid (show f_Match p n l = (acc, true) from by rw [HF.out, ← hM.out, mGo_star hlt hs])
    clear hs
    go_wp2
    go_ret2
    exact RetBs.mk HE.out HR.out.rd hw
   have hs2 : (p[k] == [42, 42]) = false := by simp [hs]
   have HS := Lib.hid hs
   clear hs
   by_cases hn : k < n.length
   rotate_left
   ·have HE := Lib.hid (show f_Match p n l = (l, false) from by rw [HF.out, ← hM.out, mGo_short hlt HS.out b_22])
    go_wp2
    go_ret2
    exact RetBs.mk HE.out (Ty.rd_below h1r HRD.out) hw
   obtain ⟨b2, o2, rfl, e2, n2⟩ := Ty.rd_str_at (Ty.rd_below hw h2) hn
   by_cases h42 : p[k] = [42]
   ·have h42' : (p[k] == [42]) = true := by simp [h42]
    have HM := Lib.hid (show mGo (p.drop (k + 1)) (n.drop (k + 1)) acc = mGo p n l from by rw [← hM.out, mGo_step hlt HS.out hn (mStep_any h42)])
    clear h42
    go_wp2
    go_roundw
    case rel => exact ⟨k + 1, acc, by omega, by omega, by go_num, HR.out, by omega, HM, hb⟩
    case measure => simp [intOf]; omega
   have h42' : (p[k] == [42]) = false := by simp [h42]
   have H42 := Lib.hid h42
   clear h42
   cases hv : isVar p[k]
   ·have hcall : Calls Tryz.prog 51 #[vS p[k]] wr (RetBP wr false) := by have := C_spec_l5Letter wr p[k] n0; rw [hv] at this; exact this
    have HV := Lib.hid hv
    clear hv
    go_wp2_with fail
    refine hcall.mono ?_
    rintro e w5 ⟨rfl, hw5⟩
    obtain rfl : wr = w5 := hw5.symm
    by_cases he : p[k] = n[k]
    ·have he2 : (p[k] == n[k]) = true := by simp [he]
     have HM := Lib.hid (show mGo (p.drop (k + 1)) (n.drop (k + 1)) acc = mGo p n l from by rw [← hM.out, mGo_step hlt HS.out hn (mStep_lit H42.out HV.out he)])
     clear he hcall
     go_wp2
     go_roundw
     case rel => exact ⟨k + 1, acc, by omega, by omega, by go_num, HR.out, by omega, HM, hb⟩
     case measure => simp [intOf]; omega
    ·have he2 : (p[k] == n[k]) = false := by simp [he]
     have HE := Lib.hid (show f_Match p n l = (l, false) from by rw [HF.out, ← hM.out, mGo_none hlt HS.out hn (mStep_bad H42.out HV.out he)])
     clear he hcall
     go_wp2
     go_ret2
     exact RetBs.mk HE.out (Ty.rd_below h1r HRD.out) hw
   ·have hcall : Calls Tryz.prog 51 #[vS p[k]] wr (RetBP wr true) := by have := C_spec_l5Letter wr p[k] n0; rw [hv] at this; exact this
    have HV := Lib.hid hv
    clear hv
    rcases find_ixf (letterIs p[k]) acc with ⟨hi, hf⟩ | ⟨m, hm, hi, hf⟩
    ·have hcall2 : Calls Tryz.prog 66 #[.slice Ao acc.length co, vS p[k]] wr (RetIP wr (-1)) := by have := C_spec_l5Find wr _ acc p[k] hrd0 n0; rw [hi] at this; exact this
     have HM := Lib.hid (show mGo (p.drop (k + 1)) (n.drop (k + 1)) (acc ++ [(p[k], n[k])]) = mGo p n l from by rw [← hM.out, mGo_step hlt HS.out hn (mStep_new H42.out HV.out hf)])
     clear hi hf
     go_wp2_with fail
     refine hcall.mono ?_
     rintro e w5 ⟨rfl, hw5⟩
     obtain rfl : wr = w5 := hw5.symm
     go_wp2_with fail
     refine hcall2.mono ?_
     rintro e w5 ⟨rfl, hw5⟩
     obtain rfl : wr = w5 := hw5.symm
     clear hcall hcall2
     set_option maxRecDepth 100000 in go_wp2_with (at_builtin; go_loud (refine wpList_append_drow rfl _ _ 62 rfl wr w3.heap.size 83 info_Binding rfl Tryz.underlying62 _ _ acc [(p[k], n[k])] rfl rfl HR.out b_2 (Src.lit 83 (ow_Binding (x := (p[k], n[k])) n0 n2) (FrI.nil _ _)) ?_ ?_ ?_ ?_))
     case refine_1 => simp only [List.length_cons, List.length_nil]; omega
     case refine_2 => simp only [List.length_cons, List.length_nil]; unfold maxLen; omega
     case refine_3 => exact hb.size
     intro v' w' hr' hg'
     have hb' : Below w3.heap.size w3 w' := bel_grown (bel_alloc hb _) (by have := hb.size; simp only [World.size_alloc]; omega) hg' (fun g hg => (HR.out.block g hg).1)
     have HR' := Lib.hid hr'
     clear hr' hg'
     go_wp2
     go_roundw
     case rel => exact ⟨k + 1, acc ++ [(p[k], n[k])], by omega, by omega, by go_num, HR'.out, by rw [List.length_append, List.length_singleton]; omega, HM, hb'⟩
     case measure => simp [intOf]; omega
    ·have hcall2 : Calls Tryz.prog 66 #[.slice Ao acc.length co, vS p[k]] wr (RetIP wr m) := by have := C_spec_l5Find wr _ acc p[k] hrd0 n0; rw [hi] at this; exact this
     obtain ⟨b3, o3, ds3, rfl, hl3, hcell3, hrd3⟩ := Ty.rd_at hrd0 hm
     obtain ⟨rfl, _, _⟩ := rd_Binding hrd3
     have e3 : wr.cell? ⟨b3, o3 + m * 2 + 1, none⟩ = some (vS acc[m].2) := by simpa [Ty.sz] using hcell3 1 b_21
     clear hcell3 hl3
     have i0 : (0 : Int) ≤ (m : Int) := by omega
     have i1 : (m : Int) < (acc.length : Int) := by omega
     have i2 : (0 : Int) ≤ (k : Int) := by omega
     have i3 : (k : Int) < (n.length : Int) := by omega
     go_wp2_with fail
     refine hcall.mono ?_
     rintro e w5 ⟨rfl, hw5⟩
     obtain rfl : wr = w5 := hw5.symm
     go_wp2_with fail
     refine hcall2.mono ?_
     rintro e w5 ⟨rfl, hw5⟩
     obtain rfl : wr = w5 := hw5.symm
     clear hcall hcall2
     by_cases he : acc[m].2 = n[k]
     ·have he2 : (acc[m].2 == n[k]) = true := by simp [he]
      have HM := Lib.hid (show mGo (p.drop (k + 1)) (n.drop (k + 1)) acc = mGo p n l from by rw [← hM.out, mGo_step hlt HS.out hn (mStep_eq H42.out HV.out hf he)])
      clear he hf hi
      go_wp2
      go_quiet (fail)
      go_wp2
      go_roundw
      case rel => exact ⟨k + 1, acc, by omega, by omega, by go_num, HR.out.below b_2, by omega, HM, b_2⟩
      case measure => simp [intOf]; omega
     ·have he2 : (acc[m].2 == n[k]) = false := by simp [he]
      have HE := Lib.hid (show f_Match p n l = (l, false) from by rw [HF.out, ← hM.out, mGo_none hlt HS.out hn (mStep_ne H42.out HV.out hf he)])
      clear he hf hi
      go_wp2
      go_quiet (fail)
      go_wp2
      go_ret2
      exact RetBs.mk HE.out (Ty.rd_below b_0 HRD.out) b_2
  ·by_cases hnl : n.length = p.length
   ·have HE := Lib.hid (show f_Match p n l = (acc, true) from by rw [HF.out, ← hM.out, mGo_end b_22 hnl])
    have hq : ((n.length : Int) != (p.length : Int)) = false := by simp [hnl]
    clear hnl
    go_wp2
    go_ret2
    exact RetBs.mk HE.out HR.out.rd hw
   ·have HE := Lib.hid (show f_Match p n l = (l, false) from by rw [HF.out, ← hM.out, mGo_more b_22 b_22])
    have hq : ((n.length : Int) != (p.length : Int)) = true := by rw [bne_iff_ne]; omega
    clear hnl
    go_wp2
    go_ret2
    exact RetBs.mk HE.out (Ty.rd_below h1r HRD.out) hw
set_option maxRecDepth 100000 in
set_option maxHeartbeats 8000000 in
theorem C_impl_Match (w : World) (cs1 : List Value) (p : List (List UInt8)) (cs2 : List Value) (n : List (List UInt8)) (v3 : Value) (l : List (Ty.D tBinding)) (h1 : (Ty.sl .str).rd w cs1 p) (h2 : (Ty.sl .str).rd w cs2 n) (h3 : (Ty.sl tBinding).rd w [v3] l) (hll : l.length ≤ 1000000) :
  Calls Tryz.prog 39 #[.agg cs1.toArray, .agg cs2.toArray, v3] w (RetBs w (f_Match p n l)) := by
 obtain ⟨A1, c1, rfl⟩ := Ty.rd_slv h1
 obtain ⟨A2, c2, rfl⟩ := Ty.rd_slv h2
 obtain ⟨A3, c3, rfl, _, _, _⟩ := Ty.rd_sl h3
 obtain ⟨_, _, _, _, _, m1⟩ := Ty.rd_sl h1
 obtain ⟨_, _, _, _, _, m2⟩ := Ty.rd_sl h2
 have kb1 : ((w.alloc (.cells #[.slice A1 p.length c1] 26)).alloc (.cells #[.slice A2 n.length c2] 29)).cell? ⟨w.heap.size, 0, none⟩ = some (.slice A1 p.length c1) := (World.cell?_alloc_lt _ _ _ b_14).trans (cell_new w _ _ 0 rfl)
 have kb2 : ((w.alloc (.cells #[.slice A1 p.length c1] 26)).alloc (.cells #[.slice A2 n.length c2] 29)).cell? ⟨w.heap.size + 1, 0, none⟩ = some (.slice A2 n.length c2) := cell_new _ _ _ 0 (by simp only [World.size_alloc])
 have hvb : Below w.heap.size w ((w.alloc (.cells #[.slice A1 p.length c1] 26)).alloc (.cells #[.slice A2 n.length c2] 29)) := b_2
 have zb : ((w.alloc (.cells #[.slice A1 p.length c1] 26)).alloc (.cells #[.slice A2 n.length c2] 29)).heap.size = w.heap.size + 1 + 1 := by simp only [World.size_alloc]
 have HKB := Lib.hid (And.intro kb1 (And.intro kb2 zb))
 clear kb1 kb2 zb
 have hmf := hmf_ (P := Tryz.prog)
 go_enter Tryz.func39, Tryz.ntmps39
 go_wp2_with fail
 generalize ((w.alloc (.cells #[.slice A1 p.length c1] 26)).alloc (.cells #[.slice A2 n.length c2] 29)) = WX at HKB hvb ⊢
 obtain ⟨kb1, kb2, zb0⟩ := HKB.out
 have zb : w.heap.size + 1 < WX.heap.size := by omega
 clear zb0
 refine (C_Clone_Binding _ _ l (Ty.rd_below hvb h3) b_22).mono ?_
 rintro e w1 ⟨v1, rfl, hr1, hb1⟩
 have hw1 : Below w.heap.size w w1 := bel_trans hvb hb1
 have HRD : Hid ((Ty.sl tBinding).rd w1 [v1] l) := Lib.hid hr1.rd
 have HR1 := Lib.hid hr1
 clear hr1 HKB
 have HC : Hid (∀ W, Below WX.heap.size WX W → W.cell? ⟨w.heap.size, 0, none⟩ = some (.slice A1 p.length c1) ∧ W.cell? ⟨w.heap.size + 1, 0, none⟩ = some (.slice A2 n.length c2)) := fun W hW => ⟨(hW.cell (p := ⟨w.heap.size, 0, none⟩) b_18).trans kb1, (hW.cell (p := ⟨w.heap.size + 1, 0, none⟩) b_18).trans kb2⟩
 clear kb1 kb2
 obtain ⟨j1, j2⟩ := HC.out _ hb1
 go_wp2_with fail
 refine (C_impl_ValidPattern _ _ _ (Ty.rd_below hw1 h1)).mono ?_
 rintro e w2 ⟨rfl, hb2⟩
 have hx2 : Below WX.heap.size WX w2 := bel_trans hb1 hb2
 have hw2 : Below w.heap.size w w2 := bel_trans hvb hx2
 clear j1 j2
 obtain ⟨j1, j2⟩ := HC.out _ hx2
 cases q0 : validPat p
 ·have HF := Lib.hid (f_Match_no (n := n) l (by rw [q0]; rfl))
  go_wp2
  go_ret2
  exact RetBs.mk HF.out (Ty.rd_below hb2 HRD.out) hw2
 go_wp2_with fail
 refine (C_impl_ValidName _ _ _ (Ty.rd_below hw2 h2)).mono ?_
 rintro e w3 ⟨rfl, hb3⟩
 have hx3 : Below WX.heap.size WX w3 := bel_trans hx2 hb3
 have hw3 : Below w.heap.size w w3 := bel_trans hvb hx3
 have h13 : Below w1.heap.size w1 w3 := bel_trans hb2 hb3
 clear j1 j2
 cases q1 : validName n
 ·have HF := Lib.hid (f_Match_no (p := p) l (by rw [q1]; cases validPat p <;> rfl))
  go_wp2
  go_ret2
  exact RetBs.mk HF.out (Ty.rd_below h13 HRD.out) hw3
 have HF := Lib.hid (f_Match_go l q0 q1)
 have hp6 := validPat_len q0
 clear q0 q1
 obtain ⟨j1, j2⟩ := HC.out _ hx3
 go_wp2
 go_loopw [8, 27] (fun out i wr => ∃ (k : Nat) (acc : List (Ty.D tBinding)), k ≤ p.length ∧ k ≤ n.length ∧ i = .int .i64 k ∧ DRow tBinding wr WX.heap.size 83 out acc ∧ acc.length ≤ l.length + k ∧ Hid (mGo (p.drop k) (n.drop k) acc = mGo p n l) ∧ Below WX.heap.size WX wr) (fun _ i _ => p.length - (intOf i).toNat)
 case atStart => exact ⟨0, l, by omega, by omega, rfl, HR1.out.below h13, by omega, Lib.hid rfl, hx3⟩
 case round =>
  obtain ⟨k, acc, hk, hkn, rfl, hr, hal, hM, hb⟩ := hrel
  clear j1 j2
  obtain ⟨j1, j2⟩ := HC.out wr hb
  have hw : Below w.heap.size w wr := bel_trans hvb hb
  have z1 : w.heap.size + 1 < wr.heap.size := by have := hb.size; omega
  have z0 : w.heap.size < wr.heap.size := by omega
  obtain ⟨Ao, co, hout⟩ := hr.form
  have hrd0 := hr.rd
  have HR := Lib.hid hr
  clear hr
  subst hout
  by_cases hlt : k < p.length
  ·obtain ⟨b, o, rfl, e0, n0⟩ := Ty.rd_str_at (Ty.rd_below hw h1) hlt
   have hx0 : Below wr.heap.size wr (wr.alloc (.cells #[vS p[k]] 9)) := b_2
   by_cases hs : p[k] = [42, 42]
   ·have hs2 : (p[k] == [42, 42]) = true := by simp [hs]
    have HE := Lib.hid (show f_Match p n l = (acc, true) from by rw [HF.out, ← hM.out, mGo_star hlt hs])
    clear hs
    go_wp2
    go_ret2
    exact RetBs.mk HE.out (Ty.rd_below hx0 HR.out.rd) (bel_trans hw hx0)
   have hs2 : (p[k] == [42, 42]) = false := by simp [hs]
   have HS := Lib.hid hs
   clear hs
   by_cases hn : k < n.length
   rotate_left
   ·have HE := Lib.hid (show f_Match p n l = (l, false) from by rw [HF.out, ← hM.out, mGo_short hlt HS.out b_22])
    go_wp2_with fail
    refine (C_Clone_Binding _ _ l (Ty.rd_below (bel_trans hw hx0) h3) b_22).mono ?_
    rintro e w6 ⟨v6, rfl, hr6, hb6⟩
    have HR6 := Lib.hid hr6.rd
    clear hr6
    go_wp2
    go_ret2
    exact RetBs.mk HE.out HR6.out (bel_trans (bel_trans hw hx0) hb6)
   obtain ⟨b2, o2, rfl, e2, n2⟩ := Ty.rd_str_at (Ty.rd_below hw h2) hn
   have hlb2 : b2 < wr.heap.size := World.block_lt_of_cell? wr _ e2
   rcases (show (ixf (letterIs p[k]) acc = -1 ∧ acc.find? (letterIs p[k]) = none) ∨ ∃ (m : Nat) (h : m < acc.length), ixf (letterIs p[k]) acc = m ∧ acc.find? (letterIs p[k]) = some acc[m] from find_ixf (letterIs p[k]) acc) with ⟨hi, hf⟩ | ⟨m, hm, hi, hf⟩
   all_goals
    have HFI := Lib.hid hf
    have HII := Lib.hid hi
    clear hf hi
    go_wp2_with fail
    refine (C_IndexFunc_Binding _ _ acc (letterIs p[k]) 64 #[.pointer (some ⟨wr.heap.size, 0, none⟩)] (enters_of Tryz.func64 b_20 rfl) (Ty.rd_below hx0 hrd0) (fun W ds d hd hr hW => C_impl_Match1 W ds d p[k] wr.heap.size hr ?_)).mono ?_
    ·rw [hW.cell b_14]
     exact cell_new wr _ _ 0 rfl
    rw [HII.out]
    rintro e w5 ⟨rfl, hb5⟩
    have k0 : w5.cell? ⟨wr.heap.size, 0, none⟩ = some (vS p[k]) := (hb5.cell (p := ⟨wr.heap.size, 0, none⟩) b_14).trans (cell_new wr _ _ 0 rfl)
    have hv5 : Below wr.heap.size wr w5 := bel_trans hx0 hb5
    have hx5 : Below WX.heap.size WX w5 := bel_trans hb hv5
    have hw5 : Below w.heap.size w w5 := bel_trans hvb hx5
    clear j1 j2
    obtain ⟨j1, j2⟩ := HC.out w5 hx5
    have HR5 := Lib.hid (HR.out.below hv5)
    by_cases h42 : p[k] = [42]
    ·have h42' : (p[k] == [42]) = true := by simp [h42]
     have HM := Lib.hid (show mGo (p.drop (k + 1)) (n.drop (k + 1)) acc = mGo p n l from by rw [← hM.out, mGo_step hlt HS.out hn (mStep_any h42)])
     clear h42
     go_wp2
     go_roundw
     case rel => exact ⟨k + 1, acc, by omega, by omega, by go_num, HR5.out, by omega, HM, hx5⟩
     case measure => simp [intOf]; omega
    have h42' : (p[k] == [42]) = false := by simp [h42]
    have H42 := Lib.hid h42
    clear h42
   ·cases hv : isVar p[k]
    ·have hcall : Calls Tryz.prog 48 #[vS p[k]] w5 (RetBP w5 false) := by have := C_impl_isVariable w5 p[k] n0; rw [hv] at this; exact this
     have HV := Lib.hid hv
     clear hv
     go_wp2_with fail
     refine hcall.mono ?_
     rintro e w7 ⟨rfl, hw7⟩
     obtain rfl : w5 = w7 := hw7.symm
     clear hcall
     by_cases he : p[k] = n[k]
     ·have he2 : (p[k] == n[k]) = true := by simp [he]
      have HM := Lib.hid (show mGo (p.drop (k + 1)) (n.drop (k + 1)) acc = mGo p n l from by rw [← hM.out, mGo_step hlt HS.out hn (mStep_lit H42.out HV.out he)])
      clear he
      go_wp2
      go_roundw
      case rel => exact ⟨k + 1, acc, by omega, by omega, by go_num, HR5.out, by omega, HM, hx5⟩
      case measure => simp [intOf]; omega
     ·have he2 : (p[k] == n[k]) = false := by simp [he]
      have HE := Lib.hid (show f_Match p n l = (l, false) from by rw [HF.out, ← hM.out, mGo_none hlt HS.out hn (mStep_bad H42.out HV.out he)])
      clear he
      go_wp2_with fail
      refine (C_Clone_Binding _ _ l (Ty.rd_below hw5 h3) b_22).mono ?_
      rintro e w6 ⟨v6, rfl, hr6, hb6⟩
      have HR6 := Lib.hid hr6.rd
      clear hr6
      go_wp2
      go_ret2
      exact RetBs.mk HE.out HR6.out (bel_trans hw5 hb6)
    ·have hcall : Calls Tryz.prog 48 #[vS p[k]] w5 (RetBP w5 true) := by have := C_impl_isVariable w5 p[k] n0; rw [hv] at this; exact this
     have HV := Lib.hid hv
     clear hv
     have HM := Lib.hid (show mGo (p.drop (k + 1)) (n.drop (k + 1)) (acc ++ [(p[k], n[k])]) = mGo p n l from by rw [← hM.out, mGo_step hlt HS.out hn (mStep_new H42.out HV.out HFI.out)])
     go_wp2_with fail
     refine hcall.mono ?_
     rintro e w7 ⟨rfl, hw7⟩
     obtain rfl : w5 = w7 := hw7.symm
     clear hcall
     set_option maxRecDepth 100000 in go_wp2_with (at_builtin; go_loud (refine wpList_append_drow rfl _ _ 62 rfl w5 WX.heap.size 83 info_Binding rfl Tryz.underlying62 _ _ acc [(p[k], n[k])] rfl rfl HR5.out b_2 (Src.lit 83 (ow_Binding (x := (p[k], n[k])) n0 n2) (FrI.nil _ _)) ?_ ?_ ?_ ?_))
     case refine_1 => simp only [List.length_cons, List.length_nil]; omega
     case refine_2 => simp only [List.length_cons, List.length_nil]; unfold maxLen; omega
     case refine_3 => exact hx5.size
     intro v' w' hr' hg'
     have hb' : Below WX.heap.size WX w' := bel_grown (bel_alloc hx5 _) (by have := hx5.size; simp only [World.size_alloc]; omega) hg' (fun g hg => (HR5.out.block g hg).1)
     have HR' := Lib.hid hr'
     clear hr' hg'
     go_wp2
     go_roundw
     case rel => exact ⟨k + 1, acc ++ [(p[k], n[k])], by omega, by omega, by go_num, HR'.out, by rw [List.length_append, List.length_singleton]; omega, HM, hb'⟩
     case measure => simp [intOf]; omega
   ·cases hv : isVar p[k]
    ·have hcall : Calls Tryz.prog 48 #[vS p[k]] w5 (RetBP w5 false) := by have := C_impl_isVariable w5 p[k] n0; rw [hv] at this; exact this
     have HV := Lib.hid hv
     clear hv
     go_wp2_with fail
     refine hcall.mono ?_
     rintro e w7 ⟨rfl, hw7⟩
     obtain rfl : w5 = w7 := hw7.symm
     clear hcall
     by_cases he : p[k] = n[k]
     ·have he2 : (p[k] == n[k]) = true := by simp [he]
      have HM := Lib.hid (show mGo (p.drop (k + 1)) (n.drop (k + 1)) acc = mGo p n l from by rw [← hM.out, mGo_step hlt HS.out hn (mStep_lit H42.out HV.out he)])
      clear he
      go_wp2
      go_roundw
      case rel => exact ⟨k + 1, acc, by omega, by omega, by go_num, HR5.out, by omega, HM, hx5⟩
      case measure => simp [intOf]; omega
     ·have he2 : (p[k] == n[k]) = false := by simp [he]
      have HE := Lib.hid (show f_Match p n l = (l, false) from by rw [HF.out, ← hM.out, mGo_none hlt HS.out hn (mStep_bad H42.out HV.out he)])
      clear he
      go_wp2_with fail
      refine (C_Clone_Binding _ _ l (Ty.rd_below hw5 h3) b_22).mono ?_
      rintro e w6 ⟨v6, rfl, hr6, hb6⟩
      have HR6 := Lib.hid hr6.rd
      clear hr6
      go_wp2
      go_ret2
      exact RetBs.mk HE.out HR6.out (bel_trans hw5 hb6)
    ·have hcall : Calls Tryz.prog 48 #[vS p[k]] w5 (RetBP w5 true) := by have := C_impl_isVariable w5 p[k] n0; rw [hv] at this; exact this
     have HV := Lib.hid hv
     clear hv
     obtain ⟨b3, o3, ds3, rfl, hl3, hcell3, hrd3⟩ := Ty.rd_at HR5.out.rd hm
     obtain ⟨rfl, _, _⟩ := rd_Binding hrd3
     have e3 : w5.cell? ⟨b3, o3 + m * 2 + 1, none⟩ = some (vS acc[m].2) := by simpa [Ty.sz] using hcell3 1 b_21
     clear hcell3 hl3
     go_wp2_with fail
     refine hcall.mono ?_
     rintro e w7 ⟨rfl, hw7⟩
     obtain rfl : w5 = w7 := hw7.symm
     clear hcall
     by_cases he : acc[m].2 = n[k]
     ·have he2 : (acc[m].2 == n[k]) = true := by simp [he]
      have HM := Lib.hid (show mGo (p.drop (k + 1)) (n.drop (k + 1)) acc = mGo p n l from by rw [← hM.out, mGo_step hlt HS.out hn (mStep_eq H42.out HV.out HFI.out he)])
      clear he
      go_wp2
      go_roundw
      case rel => exact ⟨k + 1, acc, by omega, by omega, by go_num, HR5.out, by omega, HM, hx5⟩
      case measure => simp [intOf]; omega
     ·have he2 : (acc[m].2 == n[k]) = false := by simp [he]
      have HE := Lib.hid (show f_Match p n l = (l, false) from by rw [HF.out, ← hM.out, mGo_none hlt HS.out hn (mStep_ne H42.out HV.out HFI.out he)])
      clear he
      go_wp2_with fail
      refine (C_Clone_Binding _ _ l (Ty.rd_below hw5 h3) b_22).mono ?_
      rintro e w6 ⟨v6, rfl, hr6, hb6⟩
      have HR6 := Lib.hid hr6.rd
      clear hr6
      go_wp2
      go_ret2
      exact RetBs.mk HE.out HR6.out (bel_trans hw5 hb6)
  ·by_cases hnl : p.length < n.length
   ·have HE := Lib.hid (show f_Match p n l = (l, false) from by rw [HF.out, ← hM.out, mGo_more b_22 hnl])
    go_wp2_with fail
    refine (C_Clone_Binding _ _ l (Ty.rd_below hw h3) b_22).mono ?_
    rintro e w6 ⟨v6, rfl, hr6, hb6⟩
    have HR6 := Lib.hid hr6.rd
    clear hr6
    go_wp2
    go_ret2
    exact RetBs.mk HE.out HR6.out (bel_trans hw hb6)
   ·have HE := Lib.hid (show f_Match p n l = (acc, true) from by rw [HF.out, ← hM.out, mGo_end b_22 b_22])
    go_wp2
    go_ret2
    exact RetBs.mk HE.out HR.out.rd hw
def f_RuleAllows (r : tRule.D) (n q : List (List UInt8)) : Bool := validRule r && (f_Match r.1 n []).2 && (f_Match r.2 q (f_Match r.1 n []).1).2
def f_FirstAllowingRule (x : List (Ty.D tRule)) (n q : List (List UInt8)) : Int := ixf (fun r => f_RuleAllows r n q) x
def f_Allowed (x : List (Ty.D tRule)) (n q : List (List UInt8)) : Bool := x.any (fun r => f_RuleAllows r n q)
theorem rd_nil0 (w : World) {e : Ty} (A : Option Addr) : (Ty.sl e).rd w [.slice A 0 0] [] := ⟨A, 0, rfl, Nat.le_refl _, ⟨Nat.zero_le _, fun _ => rfl⟩, by simp, fun h => absurd h b_23⟩
set_option maxRecDepth 100000 in
set_option maxHeartbeats 4000000 in
theorem C_spec_RuleAllows (w : World) (cs1 : List Value) (r : tRule.D) (cs2 : List Value) (n : List (List UInt8)) (cs3 : List Value) (q : List (List UInt8)) (h1 : tRule.rd w cs1 r) (h2 : (Ty.sl .str).rd w cs2 n) (h3 : (Ty.sl .str).rd w cs3 q) (s0 : Ty.bulk tRule r ≤ 1048576) (s1 : Ty.bulk (.sl .str) n ≤ 1048576) (s2 : Ty.bulk (.sl .str) q ≤ 1048576) :
  Calls Tryz.prog 14 #[.agg cs1.toArray, .agg cs2.toArray, .agg cs3.toArray] w (RetB w (f_RuleAllows r n q)) := by
 have h1' := h1
 obtain ⟨A0, c0, A1, c1, rfl, g0, g1⟩ := rd_Rule h1
 obtain ⟨A2, c2, rfl⟩ := Ty.rd_slv h2
 obtain ⟨A3, c3, rfl⟩ := Ty.rd_slv h3
 have hF : f_RuleAllows r n q = (validRule r && (f_Match r.1 n []).2 && (f_Match r.2 q (f_Match r.1 n []).1).2) := rfl
 have hlen : (f_Match r.1 n []).1.length ≤ 0 + 6 := match_len r.1 n []
 have kb0 : (((w.alloc (.cells #[.slice A0 (List.length r.1) c0, .slice A1 (List.length r.2) c1] 28)).alloc (.cells #[.slice A2 n.length c2] 29)).alloc (.cells #[.slice A3 q.length c3] 29)).cell? ⟨w.heap.size, 0, none⟩ = some (.slice A0 (List.length r.1) c0) := (World.cell?_alloc_lt _ _ _ b_14).trans ((World.cell?_alloc_lt _ _ _ b_14).trans (cell_new w _ _ 0 rfl))
 have kb1 : (((w.alloc (.cells #[.slice A0 (List.length r.1) c0, .slice A1 (List.length r.2) c1] 28)).alloc (.cells #[.slice A2 n.length c2] 29)).alloc (.cells #[.slice A3 q.length c3] 29)).cell? ⟨w.heap.size, 1, none⟩ = some (.slice A1 (List.length r.2) c1) := (World.cell?_alloc_lt _ _ _ b_14).trans ((World.cell?_alloc_lt _ _ _ b_14).trans (cell_new w _ _ 1 rfl))
 have kb2 : (((w.alloc (.cells #[.slice A0 (List.length r.1) c0, .slice A1 (List.length r.2) c1] 28)).alloc (.cells #[.slice A2 n.length c2] 29)).alloc (.cells #[.slice A3 q.length c3] 29)).cell? ⟨w.heap.size + 1, 0, none⟩ = some (.slice A2 n.length c2) := (World.cell?_alloc_lt _ _ _ b_14).trans (cell_new _ _ _ 0 (by simp only [World.size_alloc]))
 have kb3 : (((w.alloc (.cells #[.slice A0 (List.length r.1) c0, .slice A1 (List.length r.2) c1] 28)).alloc (.cells #[.slice A2 n.length c2] 29)).alloc (.cells #[.slice A3 q.length c3] 29)).cell? ⟨w.heap.size + 1 + 1, 0, none⟩ = some (.slice A3 q.length c3) := cell_new _ _ _ 0 (by simp only [World.size_alloc])
 have hvb : Below w.heap.size w (((w.alloc (.cells #[.slice A0 (List.length r.1) c0, .slice A1 (List.length r.2) c1] 28)).alloc (.cells #[.slice A2 n.length c2] 29)).alloc (.cells #[.slice A3 q.length c3] 29)) := b_2
 have zb : w.heap.size + 1 + 1 < (((w.alloc (.cells #[.slice A0 (List.length r.1) c0, .slice A1 (List.length r.2) c1] 28)).alloc (.cells #[.slice A2 n.length c2] 29)).alloc (.cells #[.slice A3 q.length c3] 29)).heap.size := by simp only [World.size_alloc]; omega
 generalize f_RuleAllows r n q = F at hF ⊢
 generalize hm1 : f_Match r.1 n [] = R1 at hF hlen
 have HM1 := Lib.hid hm1
 obtain ⟨l1, t1⟩ := R1
 generalize hm2 : f_Match r.2 q l1 = R2 at hF
 have HM2 := Lib.hid hm2
 obtain ⟨l2, t2⟩ := R2
 have hF2 : F = (validRule r && t1 && t2) := by rw [hF]
 have hll : l1.length ≤ 1000000 := by dsimp only at hlen; omega
 have HF := Lib.hid hF2
 clear hF hF2 hlen hm1 hm2
 go_enter Tryz.func14, Tryz.ntmps14
 go_wp2_with fail
 generalize (((w.alloc (.cells #[.slice A0 (List.length r.1) c0, .slice A1 (List.length r.2) c1] 28)).alloc (.cells #[.slice A2 n.length c2] 29)).alloc (.cells #[.slice A3 q.length c3] 29)) = WX at kb0 kb1 kb2 kb3 hvb zb ⊢
 have HC : Hid (∀ W, Below WX.heap.size WX W → W.cell? ⟨w.heap.size, 0, none⟩ = some (.slice A0 (List.length r.1) c0) ∧ W.cell? ⟨w.heap.size, 1, none⟩ = some (.slice A1 (List.length r.2) c1) ∧ W.cell? ⟨w.heap.size + 1, 0, none⟩ = some (.slice A2 n.length c2) ∧ W.cell? ⟨w.heap.size + 1 + 1, 0, none⟩ = some (.slice A3 q.length c3)) := fun W hW => ⟨(hW.cell (p := ⟨w.heap.size, 0, none⟩) b_18).trans kb0, (hW.cell (p := ⟨w.heap.size, 1, none⟩) b_18).trans kb1, (hW.cell (p := ⟨w.heap.size + 1, 0, none⟩) b_18).trans kb2, (hW.cell (p := ⟨w.heap.size + 1 + 1, 0, none⟩) b_18).trans kb3⟩
 clear kb0 kb1 kb2 kb3
 refine (C_spec_Match _ _ r.1 _ n _ [] (Ty.rd_below (bel_trans hvb b_0) g0) (Ty.rd_below (bel_trans hvb b_0) h2) (rd_nil0 _ _) b_23).mono ?_
 rw [HM1.out]
 rintro e w1 ⟨v1, rfl, hr1, hb1⟩
 have hx1 : Below WX.heap.size WX w1 := bel_trans b_2 hb1
 have hw1 : Below w.heap.size w w1 := bel_trans hvb hx1
 obtain ⟨j0, j1, j2, j3⟩ := HC.out _ hx1
 go_wp2_with fail
 refine (C_spec_Match _ _ r.2 _ q _ l1 (Ty.rd_below hw1 g1) (Ty.rd_below hw1 h3) hr1 hll).mono ?_
 rw [HM2.out]
 rintro e w2 ⟨v2, rfl, hr2, hb2⟩
 have hx2 : Below WX.heap.size WX w2 := bel_trans hx1 hb2
 have hw2 : Below w.heap.size w w2 := bel_trans hvb hx2
 clear j0 j1 j2 j3
 obtain ⟨j0, j1, j2, j3⟩ := HC.out _ hx2
 go_wp2_with fail
 refine (C_spec_ValidRule _ _ r (Ty.rd_below hw2 h1') s0).mono ?_
 rintro e w3 ⟨rfl, hb3⟩
 have hw3 : Below w.heap.size w w3 := bel_trans hw2 hb3
 dsimp only at *
 cases q0 : validRule r <;> cases t1 <;> cases t2
 all_goals
  rw [q0] at HF
  go_wp2
  go_ret
  exact ⟨ret_bool (by rw [HF.out]; try rfl), hw3⟩
set_option maxRecDepth 100000 in
set_option maxHeartbeats 4000000 in
theorem C_impl_RuleAllows (w : World) (cs1 : List Value) (r : tRule.D) (cs2 : List Value) (n : List (List UInt8)) (cs3 : List Value) (q : List (List UInt8)) (h1 : tRule.rd w cs1 r) (h2 : (Ty.sl .str).rd w cs2 n) (h3 : (Ty.sl .str).rd w cs3 q) (s0 : Ty.bulk tRule r ≤ 1048576) (s1 : Ty.bulk (.sl .str) n ≤ 1048576) (s2 : Ty.bulk (.sl .str) q ≤ 1048576) :
  Calls Tryz.prog 13 #[.agg cs1.toArray, .agg cs2.toArray, .agg cs3.toArray] w (RetB w (f_RuleAllows r n q)) := by
 have h1' := h1
 obtain ⟨A0, c0, A1, c1, rfl, g0, g1⟩ := rd_Rule h1
 obtain ⟨A2, c2, rfl⟩ := Ty.rd_slv h2
 obtain ⟨A3, c3, rfl⟩ := Ty.rd_slv h3
 have hF : f_RuleAllows r n q = (validRule r && (f_Match r.1 n []).2 && (f_Match r.2 q (f_Match r.1 n []).1).2) := rfl
 have hlen : (f_Match r.1 n []).1.length ≤ 0 + 6 := match_len r.1 n []
 have kb0 : (((w.alloc (.cells #[.slice A0 (List.length r.1) c0, .slice A1 (List.length r.2) c1] 28)).alloc (.cells #[.slice A2 n.length c2] 29)).alloc (.cells #[.slice A3 q.length c3] 29)).cell? ⟨w.heap.size, 0, none⟩ = some (.slice A0 (List.length r.1) c0) := (World.cell?_alloc_lt _ _ _ b_14).trans ((World.cell?_alloc_lt _ _ _ b_14).trans (cell_new w _ _ 0 rfl))
 have kb1 : (((w.alloc (.cells #[.slice A0 (List.length r.1) c0, .slice A1 (List.length r.2) c1] 28)).alloc (.cells #[.slice A2 n.length c2] 29)).alloc (.cells #[.slice A3 q.length c3] 29)).cell? ⟨w.heap.size, 1, none⟩ = some (.slice A1 (List.length r.2) c1) := (World.cell?_alloc_lt _ _ _ b_14).trans ((World.cell?_alloc_lt _ _ _ b_14).trans (cell_new w _ _ 1 rfl))
 have kb2 : (((w.alloc (.cells #[.slice A0 (List.length r.1) c0, .slice A1 (List.length r.2) c1] 28)).alloc (.cells #[.slice A2 n.length c2] 29)).alloc (.cells #[.slice A3 q.length c3] 29)).cell? ⟨w.heap.size + 1, 0, none⟩ = some (.slice A2 n.length c2) := (World.cell?_alloc_lt _ _ _ b_14).trans (cell_new _ _ _ 0 (by simp only [World.size_alloc]))
 have kb3 : (((w.alloc (.cells #[.slice A0 (List.length r.1) c0, .slice A1 (List.length r.2) c1] 28)).alloc (.cells #[.slice A2 n.length c2] 29)).alloc (.cells #[.slice A3 q.length c3] 29)).cell? ⟨w.heap.size + 1 + 1, 0, none⟩ = some (.slice A3 q.length c3) := cell_new _ _ _ 0 (by simp only [World.size_alloc])
 have hvb : Below w.heap.size w (((w.alloc (.cells #[.slice A0 (List.length r.1) c0, .slice A1 (List.length r.2) c1] 28)).alloc (.cells #[.slice A2 n.length c2] 29)).alloc (.cells #[.slice A3 q.length c3] 29)) := b_2
 have zb : w.heap.size + 1 + 1 < (((w.alloc (.cells #[.slice A0 (List.length r.1) c0, .slice A1 (List.length r.2) c1] 28)).alloc (.cells #[.slice A2 n.length c2] 29)).alloc (.cells #[.slice A3 q.length c3] 29)).heap.size := by simp only [World.size_alloc]; omega
 generalize f_RuleAllows r n q = F at hF ⊢
 generalize hm1 : f_Match r.1 n [] = R1 at hF hlen
 have HM1 := Lib.hid hm1
 obtain ⟨l1, t1⟩ := R1
 generalize hm2 : f_Match r.2 q l1 = R2 at hF
 have HM2 := Lib.hid hm2
 obtain ⟨l2, t2⟩ := R2
 have hF2 : F = (validRule r && t1 && t2) := by rw [hF]
 have hll : l1.length ≤ 1000000 := by dsimp only at hlen; omega
 have HF := Lib.hid hF2
 clear hF hF2 hlen hm1 hm2
 go_enter Tryz.func13, Tryz.ntmps13
 go_wp2_with fail
 generalize (((w.alloc (.cells #[.slice A0 (List.length r.1) c0, .slice A1 (List.length r.2) c1] 28)).alloc (.cells #[.slice A2 n.length c2] 29)).alloc (.cells #[.slice A3 q.length c3] 29)) = WX at kb0 kb1 kb2 kb3 hvb zb ⊢
 have HC : Hid (∀ W, Below WX.heap.size WX W → W.cell? ⟨w.heap.size, 0, none⟩ = some (.slice A0 (List.length r.1) c0) ∧ W.cell? ⟨w.heap.size, 1, none⟩ = some (.slice A1 (List.length r.2) c1) ∧ W.cell? ⟨w.heap.size + 1, 0, none⟩ = some (.slice A2 n.length c2) ∧ W.cell? ⟨w.heap.size + 1 + 1, 0, none⟩ = some (.slice A3 q.length c3)) := fun W hW => ⟨(hW.cell (p := ⟨w.heap.size, 0, none⟩) b_18).trans kb0, (hW.cell (p := ⟨w.heap.size, 1, none⟩) b_18).trans kb1, (hW.cell (p := ⟨w.heap.size + 1, 0, none⟩) b_18).trans kb2, (hW.cell (p := ⟨w.heap.size + 1 + 1, 0, none⟩) b_18).trans kb3⟩
 clear kb0 kb1 kb2 kb3
 refine (C_impl_Match _ _ r.1 _ n _ [] (Ty.rd_below hvb g0) (Ty.rd_below hvb h2) (rd_nil0 _ _) b_23).mono ?_
 rw [HM1.out]
 rintro e w1 ⟨v1, rfl, hr1, hb1⟩
 have hx1 : Below WX.heap.size WX w1 := bel_trans (Below.refl _ _) hb1
 have hw1 : Below w.heap.size w w1 := bel_trans hvb hx1
 obtain ⟨j0, j1, j2, j3⟩ := HC.out _ hx1
 go_wp2_with fail
 refine (C_impl_Match _ _ r.2 _ q _ l1 (Ty.rd_below hw1 g1) (Ty.rd_below hw1 h3) hr1 hll).mono ?_
 rw [HM2.out]
 rintro e w2 ⟨v2, rfl, hr2, hb2⟩
 have hx2 : Below WX.heap.size WX w2 := bel_trans hx1 hb2
 have hw2 : Below w.heap.size w w2 := bel_trans hvb hx2
 clear j0 j1 j2 j3
 obtain ⟨j0, j1, j2, j3⟩ := HC.out _ hx2
 go_wp2_with fail
 refine (C_impl_ValidRule _ _ r (Ty.rd_below hw2 h1') s0).mono ?_
 rintro e w3 ⟨rfl, hb3⟩
 have hw3 : Below w.heap.size w w3 := bel_trans hw2 hb3
 dsimp only at *
 cases q0 : validRule r <;> cases t1 <;> cases t2
 all_goals
  rw [q0] at HF
  go_wp2
  go_ret
  exact ⟨ret_bool (by rw [HF.out]; try rfl), hw3⟩
set_option maxHeartbeats 4000000 in
theorem C_spec_FirstAllowingRule (w : World) (v : Value) (x : List (Ty.D tRule)) (cs2 : List Value) (n : List (List UInt8)) (cs3 : List Value) (q : List (List UInt8)) (h1 : (Ty.sl tRule).rd w [v] x) (h2 : (Ty.sl .str).rd w cs2 n) (h3 : (Ty.sl .str).rd w cs3 q) (s0 : Ty.bulk (.sl tRule) x ≤ 1048576) (s1 : Ty.bulk (.sl .str) n ≤ 1048576) (s2 : Ty.bulk (.sl .str) q ≤ 1048576) :
  Calls Tryz.prog 17 #[v, .agg cs2.toArray, .agg cs3.toArray] w (RetI w (f_FirstAllowingRule x n q)) := by
 obtain ⟨A1, c1, rfl, hc1, hm1, hn1⟩ := Ty.rd_sl h1
 obtain ⟨A2, c2, rfl⟩ := Ty.rd_slv h2
 obtain ⟨A3, c3, rfl⟩ := Ty.rd_slv h3
 have kb2 : ((w.alloc (.cells #[.slice A2 n.length c2] 29)).alloc (.cells #[.slice A3 q.length c3] 29)).cell? ⟨w.heap.size, 0, none⟩ = some (.slice A2 n.length c2) := (World.cell?_alloc_lt _ _ _ b_14).trans (cell_new _ _ _ 0 rfl)
 have kb3 : ((w.alloc (.cells #[.slice A2 n.length c2] 29)).alloc (.cells #[.slice A3 q.length c3] 29)).cell? ⟨w.heap.size + 1, 0, none⟩ = some (.slice A3 q.length c3) := cell_new _ _ _ 0 (by simp only [World.size_alloc])
 have hvb : Below w.heap.size w ((w.alloc (.cells #[.slice A2 n.length c2] 29)).alloc (.cells #[.slice A3 q.length c3] 29)) := b_2
 have zb : w.heap.size + 1 < ((w.alloc (.cells #[.slice A2 n.length c2] 29)).alloc (.cells #[.slice A3 q.length c3] 29)).heap.size := by simp only [World.size_alloc]; omega
 go_enter Tryz.func17, Tryz.ntmps17
 go_wp2
 generalize ((w.alloc (.cells #[.slice A2 n.length c2] 29)).alloc (.cells #[.slice A3 q.length c3] 29)) = WX at kb2 kb3 hvb zb ⊢
 have HC : Hid (∀ W, Below WX.heap.size WX W → W.cell? ⟨w.heap.size, 0, none⟩ = some (.slice A2 n.length c2) ∧ W.cell? ⟨w.heap.size + 1, 0, none⟩ = some (.slice A3 q.length c3)) := fun W hW => ⟨(hW.cell (p := ⟨w.heap.size, 0, none⟩) b_18).trans kb2, (hW.cell (p := ⟨w.heap.size + 1, 0, none⟩) b_18).trans kb3⟩
 clear kb2 kb3
 go_loopw [7] (fun i wr => ∃ k : Nat, k ≤ x.length ∧ i = .int .i64 k ∧ (x.take k).any (fun r => f_RuleAllows r n q) = false ∧ Below WX.heap.size WX wr) (fun i _ => x.length - (intOf i).toNat)
 case atStart => exact ⟨0, by omega, rfl, by first | rfl | simp, Below.refl _ _⟩
 case round =>
  obtain ⟨k, hk, rfl, ht, hb⟩ := hrel
  have hw : Below w.heap.size w wr := bel_trans hvb hb
  obtain ⟨j2, j3⟩ := HC.out _ hb
  have HT := Lib.hid ht
  clear ht
  by_cases hlt : k < x.length
  ·have HS := Lib.hid (any_take_succ (fun r => f_RuleAllows r n q) x hlt)
   obtain ⟨b, o, ds, rfl, hl, hcell, hrd⟩ := Ty.rd_at (Ty.rd_below hw h1) hlt
   have hrd' := hrd
   obtain ⟨Aa0, ca0, Aa1, ca1, rfl, sag0, sag1⟩ := rd_Rule hrd
   have e0 : wr.cell? ⟨b, o + k * 2, none⟩ = some (.slice Aa0 (List.length x[k].1) ca0) := by simpa [Ty.sz] using hcell 0 b_21
   have e1 : wr.cell? ⟨b, o + k * 2 + 1, none⟩ = some (.slice Aa1 (List.length x[k].2) ca1) := by simpa [Ty.sz] using hcell 1 b_21
   clear hcell hl
   go_wp2_with fail
   set_option maxRecDepth 100000 in go_still_tail 6, b_20
   go_wp2_with fail
   refine (C_spec_RuleAllows _ _ x[k] _ n _ q (Ty.rd_below b_2 hrd') (Ty.rd_below (bel_drew hw) h2) (Ty.rd_below (bel_drew hw) h3) (Ty.bulk_at s0 hlt) s1 s2).mono ?_
   rintro e w1 ⟨rfl, hb1⟩
   have hb2 : Below WX.heap.size WX w1 := bel_trans (bel_drew hb) hb1
   cases hq : f_RuleAllows x[k] n q
   ·have HQ := Lib.hid hq
    go_wp2
    go_roundw
    case rel => exact ⟨k + 1, by omega, by go_num, by rw [HS.out, HT.out, HQ.out]; rfl, hb2⟩
    case measure => simp [intOf]; omega
   ·have HQ := Lib.hid hq
    go_wp2
    go_ret
    exact ⟨ret_int (ixf_hit (fun r => f_RuleAllows r n q) x hlt HT.out HQ.out).symm, bel_trans hvb hb2⟩
  ·have HE : Hid (x.any (fun r => f_RuleAllows r n q) = false) := by have := HT.out; rwa [List.take_of_length_le b_22] at this
   go_wp2
   go_ret
   exact ⟨ret_int (ixf_miss (fun r => f_RuleAllows r n q) x HE.out).symm, hw⟩
set_option maxHeartbeats 4000000 in
theorem C_impl_FirstAllowingRule1 (W : World) (ds : List Value) (r : tRule.D) (n q : List (List UInt8)) (A2 A3 : Option Addr) (c2 c3 b1 b2 : Nat) (h1 : tRule.rd W ds r) (k1 : W.cell? ⟨b1, 0, none⟩ = some (.slice A2 n.length c2)) (k2 : W.cell? ⟨b2, 0, none⟩ = some (.slice A3 q.length c3))
  (h2 : (Ty.sl .str).rd W [.slice A2 n.length c2] n) (h3 : (Ty.sl .str).rd W [.slice A3 q.length c3] q) (s0 : Ty.bulk tRule r ≤ 1048576) (s1 : Ty.bulk (.sl .str) n ≤ 1048576) (s2 : Ty.bulk (.sl .str) q ≤ 1048576) :
  Calls Tryz.prog 38 #[.agg ds.toArray, .pointer (some ⟨b1, 0, none⟩), .pointer (some ⟨b2, 0, none⟩)] W (RetB W (f_RuleAllows r n q)) := by
 have h1' := h1
 obtain ⟨A0, c0, A1, c1, rfl, g0, g1⟩ := rd_Rule h1
 have l1 : b1 < W.heap.size := World.block_lt_of_cell? W _ k1
 have l2 : b2 < W.heap.size := World.block_lt_of_cell? W _ k2
 go_enter Tryz.func38, Tryz.ntmps38
 go_wp2_with fail
 refine (C_impl_RuleAllows _ _ r _ n _ q (Ty.rd_below b_2 h1') (Ty.rd_below b_2 h2) (Ty.rd_below b_2 h3) s0 s1 s2).mono ?_
 rintro e w1 ⟨rfl, hb1⟩
 go_wp2
 go_ret
 exact ⟨rfl, b_0⟩
set_option maxHeartbeats 4000000 in
theorem C_impl_FirstAllowingRule (w : World) (v : Value) (x : List (Ty.D tRule)) (cs2 : List Value) (n : List (List UInt8)) (cs3 : List Value) (q : List (List UInt8)) (h1 : (Ty.sl tRule).rd w [v] x) (h2 : (Ty.sl .str).rd w cs2 n) (h3 : (Ty.sl .str).rd w cs3 q) (s0 : Ty.bulk (.sl tRule) x ≤ 1048576) (s1 : Ty.bulk (.sl .str) n ≤ 1048576) (s2 : Ty.bulk (.sl .str) q ≤ 1048576) :
  Calls Tryz.prog 12 #[v, .agg cs2.toArray, .agg cs3.toArray] w (RetI w (f_FirstAllowingRule x n q)) := by
 obtain ⟨A2, c2, rfl⟩ := Ty.rd_slv h2
 obtain ⟨A3, c3, rfl⟩ := Ty.rd_slv h3
 have kb2 : ((w.alloc (.cells #[.slice A2 n.length c2] 29)).alloc (.cells #[.slice A3 q.length c3] 29)).cell? ⟨w.heap.size, 0, none⟩ = some (.slice A2 n.length c2) := (World.cell?_alloc_lt _ _ _ b_14).trans (cell_new _ _ _ 0 rfl)
 have kb3 : ((w.alloc (.cells #[.slice A2 n.length c2] 29)).alloc (.cells #[.slice A3 q.length c3] 29)).cell? ⟨w.heap.size + 1, 0, none⟩ = some (.slice A3 q.length c3) := cell_new _ _ _ 0 (by simp only [World.size_alloc])
 have hvb : Below w.heap.size w ((w.alloc (.cells #[.slice A2 n.length c2] 29)).alloc (.cells #[.slice A3 q.length c3] 29)) := b_2
 have zb : w.heap.size + 1 < ((w.alloc (.cells #[.slice A2 n.length c2] 29)).alloc (.cells #[.slice A3 q.length c3] 29)).heap.size := by simp only [World.size_alloc]; omega
 have hmf := hmf_ (P := Tryz.prog)
 go_enter Tryz.func12, Tryz.ntmps12
 go_wp2_with fail
 generalize ((w.alloc (.cells #[.slice A2 n.length c2] 29)).alloc (.cells #[.slice A3 q.length c3] 29)) = WX at kb2 kb3 hvb zb ⊢
 refine (C_IndexFunc_Rule _ _ x (fun r => f_RuleAllows r n q) 38 #[.pointer (some ⟨w.heap.size, 0, none⟩), .pointer (some ⟨w.heap.size + 1, 0, none⟩)] (enters_of Tryz.func38 b_20 rfl) (Ty.rd_below hvb h1) (fun W ds d hd hr hW => ?_)).mono ?_
 ·obtain ⟨i, hi, rfl⟩ := List.getElem_of_mem hd
  exact C_impl_FirstAllowingRule1 W ds x[i] n q A2 A3 c2 c3 w.heap.size (w.heap.size + 1) hr ((hW.cell (p := ⟨w.heap.size, 0, none⟩) b_18).trans kb2) ((hW.cell (p := ⟨w.heap.size + 1, 0, none⟩) b_18).trans kb3) (Ty.rd_below (bel_trans hvb hW) h2) (Ty.rd_below (bel_trans hvb hW) h3) (Ty.bulk_at s0 hi) s1 s2
 rintro e w1 ⟨rfl, hb1⟩
 go_wp2
 go_ret
 exact ⟨rfl, bel_trans hvb hb1⟩
set_option maxHeartbeats 4000000 in
theorem C_spec_Allowed (w : World) (v : Value) (x : List (Ty.D tRule)) (cs2 : List Value) (n : List (List UInt8)) (cs3 : List Value) (q : List (List UInt8)) (h1 : (Ty.sl tRule).rd w [v] x) (h2 : (Ty.sl .str).rd w cs2 n) (h3 : (Ty.sl .str).rd w cs3 q) (s0 : Ty.bulk (.sl tRule) x ≤ 1048576) (s1 : Ty.bulk (.sl .str) n ≤ 1048576) (s2 : Ty.bulk (.sl .str) q ≤ 1048576) :
  Calls Tryz.prog 16 #[v, .agg cs2.toArray, .agg cs3.toArray] w (RetB w (f_Allowed x n q)) := by
 obtain ⟨A2, c2, rfl⟩ := Ty.rd_slv h2
 obtain ⟨A3, c3, rfl⟩ := Ty.rd_slv h3
 go_enter Tryz.func16, Tryz.ntmps16
 go_wp2_with fail
 refine (C_spec_FirstAllowingRule _ _ x _ n _ q (Ty.rd_below b_2 h1) (Ty.rd_below b_2 h2) (Ty.rd_below b_2 h3) s0 s1 s2).mono ?_
 rintro e w1 ⟨rfl, hb1⟩
 go_wp2
 go_ret
 exact ⟨ret_bool (ixf_ge (fun r => f_RuleAllows r n q) x), b_0⟩
set_option maxHeartbeats 4000000 in
theorem C_impl_Allowed (w : World) (v : Value) (x : List (Ty.D tRule)) (cs2 : List Value) (n : List (List UInt8)) (cs3 : List Value) (q : List (List UInt8)) (h1 : (Ty.sl tRule).rd w [v] x) (h2 : (Ty.sl .str).rd w cs2 n) (h3 : (Ty.sl .str).rd w cs3 q) (s0 : Ty.bulk (.sl tRule) x ≤ 1048576) (s1 : Ty.bulk (.sl .str) n ≤ 1048576) (s2 : Ty.bulk (.sl .str) q ≤ 1048576) :
  Calls Tryz.prog 15 #[v, .agg cs2.toArray, .agg cs3.toArray] w (RetB w (f_Allowed x n q)) := by
 obtain ⟨A2, c2, rfl⟩ := Ty.rd_slv h2
 obtain ⟨A3, c3, rfl⟩ := Ty.rd_slv h3
 go_enter Tryz.func15, Tryz.ntmps15
 go_wp2_with fail
 refine (C_impl_FirstAllowingRule _ _ x _ n _ q (Ty.rd_below b_2 h1) (Ty.rd_below b_2 h2) (Ty.rd_below b_2 h3) s0 s1 s2).mono ?_
 rintro e w1 ⟨rfl, hb1⟩
 go_wp2
 go_ret
 exact ⟨ret_bool (ixf_ge (fun r => f_RuleAllows r n q) x), b_0⟩
theorem validPat_slash {p : List (List UInt8)} (h : validPat p = true) : ∀ s ∈ p, s ≠ [] ∧ (47 : UInt8) ∉ s := by
 unfold validPat at h
 simp only [Bool.and_eq_true, List.all_eq_true, List.mem_range, decide_eq_true_eq] at h
 intro s hs
 obtain ⟨k, hk, rfl⟩ := List.getElem_of_mem hs
 have h2 := h.1 k hk
 rw [show p.getD k [] = p[k] by simp [List.getD, hk]] at h2
 generalize p[k] = s at h2
 unfold patPart at h2
 simp only [Bool.or_eq_true, Bool.and_eq_true, decide_eq_true_eq] at h2
 rcases h2 with ((h2 | h2) | h2) | h2
 ·unfold validPart at h2
  simp only [Bool.and_eq_true, decide_eq_true_eq, List.all_eq_true] at h2
  exact ⟨fun e => by rw [e] at h2; exact absurd h2.2.1 b_21, fun hm => absurd (h2.1 47 hm) b_21⟩
 ·subst h2; decide
 ·unfold isVar at h2
  split at h2
  ·rename_i a c
   simp only [Bool.and_eq_true, decide_eq_true_eq] at h2
   refine ⟨by simp, fun hm => ?_⟩
   simp only [List.mem_cons, List.not_mem_nil, or_false] at hm
   rcases hm with e | e
   ·rw [h2.1] at e; exact absurd e b_21
   ·subst e; exact absurd h2.2.1 b_21
  ·cases h2
 ·rw [h2.1]; decide
theorem spl_flat : ∀ (x : List UInt8) (r : List (List UInt8)), (∀ s ∈ x :: r, (47 : UInt8) ∉ s) → spl 47 (x ++ (r.map (fun s => 47 :: s)).flatten) = x :: r
 | x, [], h => by
  simp only [List.map_nil, List.flatten_nil, List.append_nil]
  exact spl_notin (h x b_23)
 | x, y :: r, h => by
  simp only [List.map_cons, List.flatten_cons, List.cons_append]
  rw [spl_app _ (h x b_23), spl_flat y r (fun s hs => h s (List.mem_cons_of_mem _ hs))]
theorem partsIn_fmtP {p : List (List UInt8)} (h : validPat p = true) : partsIn (fmtP p) = p := by
 cases p with
 | nil => rfl
 | cons x r =>
  have hs := validPat_slash h
  have e : fmtP (x :: r) = 47 :: (x ++ (r.map (fun s => 47 :: s)).flatten) := by
   unfold fmtP fmtK
   rw [if_neg b_23, List.take_of_length_le (Nat.le_refl _), List.map_cons, List.flatten_cons]
   rfl
  have hx := (hs x b_23).1
  have hne : ¬ (47 :: (x ++ (r.map (fun s => 47 :: s)).flatten) = [] ∨ 47 :: (x ++ (r.map (fun s => (47 : UInt8) :: s)).flatten) = [47]) := by
   rintro (e1 | e1)
   ·cases e1
   ·simp only [List.cons.injEq, List.append_eq_nil_iff, true_and] at e1
    exact hx e1.1
  unfold partsIn
  rw [e, if_neg hne, List.tail_cons]
  exact spl_flat x r (fun s hm => (hs s hm).2)
theorem ppI_fmtP {p : List (List UInt8)} (h : validPat p = true) : ppI (fmtP p) = (p, true) := by
 unfold ppI
 rw [partsIn_fmtP h, h]
 simp
theorem prI_back {t : tRule.D} (h : validRule t = true) : prI (f_FormatRule t) = (t, true) := by
 have hp : validPat t.1 = true ∧ validPat t.2 = true := by
  unfold validRule at h
  simp only [Bool.and_eq_true] at h
  exact h.1
 have e : Lib.cut (f_FormatRule t) [32, 60, 32] = (fmtP t.1, fmtP t.2, true) := cut_rule (fmtP_nosp hp.1)
 unfold prI
 rw [e]
 dsimp only
 rw [ppI_fmtP hp.1, ppI_fmtP hp.2]
 rw [show ruleOf (t.1, true) (t.2, true) = t from rfl, h]
 simp
theorem f0_back {t : tRule.D} (h : validRule t = true) : f0_ParseRule (f_FormatRule t) = t := by unfold f0_ParseRule; rw [prI_back h]
theorem f1_back {t : tRule.D} (h : validRule t = true) : f1_ParseRule (f_FormatRule t) = true := by unfold f1_ParseRule; rw [prI_back h]
theorem parse_yes {s : List UInt8} (h : f1_ParseRule s = true) : f_FormatRule (f0_ParseRule s) = s ∧ validRule (f0_ParseRule s) = true := by
 unfold f1_ParseRule at h
 unfold f0_ParseRule
 have : prI s = (ruleOf (ppI (Lib.cut s [32, 60, 32]).1) (ppI (Lib.cut s [32, 60, 32]).2.1), true) ∧ validRule (ruleOf (ppI (Lib.cut s [32, 60, 32]).1) (ppI (Lib.cut s [32, 60, 32]).2.1)) = true ∧ f_FormatRule (ruleOf (ppI (Lib.cut s [32, 60, 32]).1) (ppI (Lib.cut s [32, 60, 32]).2.1)) = s := by
  unfold prI at h ⊢
  split at h
  ·rename_i hh
   rw [if_pos hh]
   simp only [Bool.and_eq_true, decide_eq_true_eq] at hh
   exact ⟨rfl, hh.1.2, hh.2⟩
  ·cases h
 rw [this.1]
 exact ⟨this.2.2, this.2.1⟩
theorem eqRule_self (x : tRule.D) : (decide (x.1 = x.1) && decide (x.2 = x.2)) = true := by simp
theorem allowed_sign (l : List (Ty.D tRule)) (n q : List (List UInt8)) : f_Allowed l n q = decide (0 ≤ f_FirstAllowingRule l n q) := by
 unfold f_Allowed f_FirstAllowingRule
 exact (ixf_ge _ l).symm
theorem first_no_or (l : List (Ty.D tRule)) (n q : List (List UInt8)) : f_FirstAllowingRule l n q = -1 ∨ ∃ j : Nat, ∃ h : j < l.length, f_FirstAllowingRule l n q = (j : Int) ∧ f_RuleAllows l[j] n q = true := by
 unfold f_FirstAllowingRule
 unfold ixf
 cases hq : l.findIdx? (fun r => f_RuleAllows r n q) with
 | none => exact .inl rfl
 | some k =>
  rw [List.findIdx?_eq_some_iff_getElem] at hq
  obtain ⟨h, hp, _⟩ := hq
  exact .inr ⟨k, h, rfl, hp⟩
end Go.Proofs.YtidnahocnhcoiaaGreatDoor
namespace Go.Proofs.YtidnahocnhcoiaaGreatDoor
open Go.RowKit
set_option linter.unusedVariables false
set_option linter.unusedSimpArgs false
set_option maxHeartbeats 1000000 in
theorem C_laws_bigG (w : World) (A : Option Addr) (n c : Nat) : Calls Tryz.prog 4 #[.slice A n c] w (RetBP w (decide ((n : Int) > 1048576))) := by
 go_enter Tryz.func4, Tryz.ntmps4
 go_wp2
 go_ret
 first | exact ⟨rfl, rfl⟩ | exact ⟨rfl, Below.refl _ _⟩ | trace_state
end Go.Proofs.YtidnahocnhcoiaaGreatDoor
