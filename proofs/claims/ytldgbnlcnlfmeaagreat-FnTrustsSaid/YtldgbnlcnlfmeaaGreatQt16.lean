/- Texts of this claim, merged by a program: Trg Dtr. -/
import Derived.Test.YtldgbnlcnlfmeaaGreatQtP
import Derived.Test.YtldgbnlcnlfmeaaGreatQt15
import Derived.Test.YtldgbnlcnlfmeaaGreatQt4
import Derived.Deep.RegionHeld3
import Derived.Deep.DeepCutAuto
import Derived.Test.YtldgbnlcnlfmeaaGreatQt5
import Derived.Test.YtldgbnlcnlfmeaaGreatQt8
import Derived.Test.YtldgbnlcnlfmeaaGreatQt3
namespace Go.Proofs.YtldgbnlcnlfmeaaGreat
open Go.RowKit
set_option linter.unusedVariables false
set_option linter.unusedSimpArgs false
set_option maxRecDepth 100000 in
set_option maxHeartbeats 4000000 in
theorem C_spec_l11TrustG (w : World) (B : Nat) (hc : CurT w B) :
  Calls Tryz.prog 90 #[pB B] w (RetDT B w (fun e w' => ∃ v1 v2 A3 v4 t f1 f2 f3 m1 m2, e = .returned (.agg #[v1, v2, .slice A3 1 1, v4]) ∧ (Ty.sl tKey).ow w' [v1] t.1 f1 ∧ (Ty.sl tRule).ow w' [v2] t.2.1 f2 ∧ (Ty.sl (.sl .str)).ow w' [.slice A3 1 1] t.2.2.1 f3 ∧ GRow tData m2 [] w' 34 v4 t.2.2.2 ∧ FrI w.heap.size m1 f1 ∧ FrI w.heap.size m1 f3 ∧ FrI m1 m2 f2 ∧ w.heap.size ≤ m1 ∧ m1 ≤ m2 ∧ m2 ≤ w'.heap.size ∧ okTrust t)) := by
 have hB := hc.lt
 go_enter Tryz.func90, Tryz.ntmps90
 go_wp2_with fail
 refine (C_spec_l4Of _ [47, 107, 101, 121, 47, 97] b_36).mono ?_
 rintro e w1 ⟨cs1, fp1, rfl, how1, hfr1, hb1⟩
 rw [pn_kA] at how1
 obtain ⟨A1, c1, rfl⟩ := Ty.ow_slv how1
 have z1 := hb1.size
 (try simp only [World.size_alloc] at z1)
 go_wp2_with fail
 refine (C_spec_l4Of _ [47, 97, 47, 107, 101, 121] b_36).mono ?_
 rintro e w2 ⟨cs2, fp2, rfl, how2, hfr2, hb2⟩
 rw [pn_aK] at how2
 obtain ⟨A2, c2, rfl⟩ := Ty.ow_slv how2
 have z2 := hb2.size
 (try simp only [World.size_alloc] at z2)
 go_wp2_with fail
 refine (C_spec_l4Of _ [47, 98, 47, 107, 101, 121] b_36).mono ?_
 rintro e w3 ⟨cs3, fp3, rfl, how3, hfr3, hb3⟩
 rw [pn_bK] at how3
 obtain ⟨A3, c3, rfl⟩ := Ty.ow_slv how3
 have z3 := hb3.size
 (try simp only [World.size_alloc] at z3)
 go_wp2_with fail
 refine (C_spec_l4Of _ [47, 98, 97, 100, 47, 107, 101, 121] b_36).mono ?_
 rintro e w4 ⟨cs4, fp4, rfl, how4, hfr4, hb4⟩
 rw [pn_badK] at how4
 obtain ⟨A4, c4, rfl⟩ := Ty.ow_slv how4
 have z4 := hb4.size
 (try simp only [World.size_alloc] at z4)
 go_wp2_with fail
 refine (C_spec_l4Of _ [47, 107, 101, 121, 47, 97] b_36).mono ?_
 rintro e w5 ⟨cs5, fp5, rfl, how5, hfr5, hb5⟩
 rw [pn_kA] at how5
 obtain ⟨A5, c5, rfl⟩ := Ty.ow_slv how5
 have z5 := hb5.size
 (try simp only [World.size_alloc] at z5)
 go_wp2_with fail
 obtain ⟨WA, hWA⟩ : ∃ WA, WA = (((w5.alloc (Obj.cells #[Value.slice A5 nm_kA.length c5] 32)).alloc (Obj.cells #[Value.slice (some { block := w4.heap.size, off := 0 }) 4 4, Value.slice none 0 0, Value.slice (some { block := w5.heap.size, off := 0 }) 1 1, Value.slice none 0 0] 29)).alloc (Obj.cells #[vS [47, 63, 120, 47, 107, 101, 121, 32, 60, 32, 47, 107, 101, 121, 47, 97], vS [47, 63, 120, 47, 42, 42, 32, 60, 32, 47, 63, 120, 47, 107, 101, 121]] 9)) := ⟨_, rfl⟩
 have zA : WA.heap.size = w5.heap.size + 1 + 1 + 1 := by rw [hWA]; simp only [World.size_alloc]
 have hwA : Below w.heap.size w WA := by rw [hWA]; exact b_4
 have hb1A : Below w1.heap.size w1 WA := by rw [hWA]; exact b_4
 have hb2A : Below w2.heap.size w2 WA := by rw [hWA]; exact b_4
 have hb3A : Below w3.heap.size w3 WA := by rw [hWA]; exact b_4
 have hb4A : Below w4.heap.size w4 WA := by rw [hWA]; exact b_4
 have hb5A : Below w5.heap.size w5 WA := by rw [hWA]; exact b_4
 have hKA : Below (w4.alloc (.cells #[Value.slice A1 nm_kA.length c1, Value.int IntKind.i64 100, Value.slice A2 nm_aK.length c2, Value.int IntKind.i64 101, Value.slice A3 nm_bK.length c3, Value.int IntKind.i64 102, Value.slice A4 nm_badK.length c4, Value.int IntKind.i64 103] 68)).heap.size (w4.alloc (.cells #[Value.slice A1 nm_kA.length c1, Value.int IntKind.i64 100, Value.slice A2 nm_aK.length c2, Value.int IntKind.i64 101, Value.slice A3 nm_bK.length c3, Value.int IntKind.i64 102, Value.slice A4 nm_badK.length c4, Value.int IntKind.i64 103] 68)) WA := by rw [hWA]; exact b_4
 have hRA : Below (w.alloc (.cells #[.slice none 0 0, .slice none 0 0, .slice none 0 0, .slice none 0 0] 29)).heap.size (w.alloc (.cells #[.slice none 0 0, .slice none 0 0, .slice none 0 0, .slice none 0 0] 29)) WA := by rw [hWA]; exact b_4
 have hR := (Blk.new w 29 #[.slice none 0 0, .slice none 0 0, .slice none 0 0, .slice none 0 0]).below hRA b_31
 have hK := (Blk.new w4 _ _).below hKA b_31
 have hN : Blk WA w5.heap.size 32 #[.slice A5 nm_kA.length c5] := by rw [hWA]; exact ((Blk.new w5 _ _).alloc _).alloc _
 have hT : Blk WA (w5.heap.size + 1) 29 #[Value.slice (some { block := w4.heap.size, off := 0 }) 4 4, Value.slice none 0 0, Value.slice (some { block := w5.heap.size, off := 0 }) 1 1, Value.slice none 0 0] := by
  rw [hWA]; have := (Blk.new (w5.alloc (Obj.cells #[Value.slice A5 nm_kA.length c5] 32)) 29 #[Value.slice (some { block := w4.heap.size, off := 0 }) 4 4, Value.slice none 0 0, Value.slice (some { block := w5.heap.size, off := 0 }) 1 1, Value.slice none 0 0]).alloc (.cells #[vS ru1, vS ru2] 9)
  rwa [World.size_alloc] at this
 have hL : Blk WA (w5.heap.size + 1 + 1) 9 #[vS ru1, vS ru2] := by
  rw [hWA]; have := Blk.new ((w5.alloc (Obj.cells #[Value.slice A5 nm_kA.length c5] 32)).alloc (Obj.cells #[Value.slice (some { block := w4.heap.size, off := 0 }) 4 4, Value.slice none 0 0, Value.slice (some { block := w5.heap.size, off := 0 }) 1 1, Value.slice none 0 0] 29)) 9 #[vS [47, 63, 120, 47, 107, 101, 121, 32, 60, 32, 47, 107, 101, 121, 47, 97], vS [47, 63, 120, 47, 42, 42, 32, 60, 32, 47, 63, 120, 47, 107, 101, 121]]
  simp only [World.size_alloc] at this
  exact this
 have hok := ow_keys4 (x1 := (nm_kA, 100)) (x2 := (nm_aK, 101)) (x3 := (nm_bK, 102)) (x4 := (nm_badK, 103)) hK (ow_Key_mkT (k := (nm_kA, 100)) (owBel how1 hb1A) ib100) (ow_Key_mkT (k := (nm_aK, 101)) (owBel how2 hb2A) ib101) (ow_Key_mkT (k := (nm_bK, 102)) (owBel how3 hb3A) ib102) (ow_Key_mkT (k := (nm_badK, 103)) (owBel how4 hb4A) ib103)
 have hoa := ow_lit1 (ds := [.slice A5 nm_kA.length c5]) hN (owBel how5 hb5A)
 have z4' : w4.heap.size < w5.heap.size := by omega
 have hfk : FrI (w.heap.size + 1) (w5.heap.size + 1) (w4.heap.size :: (fp1 ++ (fp2 ++ (fp3 ++ fp4)))) := by
  refine FrI.consH ?_ b_37 b_37
  exact FrI.app (hfr1.mono (lo' := w.heap.size + 1) b_31 (Nat.le_refl _)) (FrI.app hfr2 (FrI.app hfr3 hfr4 b_37 b_37 b_37) b_37 b_37 b_37) b_37 b_37 b_37
 have hfa : FrI (w.heap.size + 1) (w5.heap.size + 1) (w5.heap.size :: fp5) := by
  exact FrI.consH (hfr5.mono b_31 (Nat.le_refl _)) b_37 b_37
 have DA : Dr B w WA := Dr.of hwA B
 have CA := hc.below hwA
 rw [← hWA]
 have hB1 : B < w5.heap.size := by omega
 clear hWA hwA hb1 hb2 hb3 hb4 hb5 hb1A hb2A hb3A hb4A hb5A hKA hRA hK hN how1 how2 how3 how4 how5 hfr1 hfr2 hfr3 hfr4 hfr5
 obtain ⟨fk, hfk'⟩ : ∃ f, f = (w4.heap.size :: (fp1 ++ (fp2 ++ (fp3 ++ fp4)))) := ⟨_, rfl⟩
 obtain ⟨fa, hfa'⟩ : ∃ f, f = (w5.heap.size :: fp5) := ⟨_, rfl⟩
 rw [← hfk'] at hok hfk
 rw [← hfa'] at hoa hfa
 clear hfk' hfa'
 rw [show [((nm_kA, 100) : Ty.D tKey), (nm_aK, 101), (nm_bK, 102), (nm_badK, 103)] = K4 from rfl] at hok
 obtain ⟨kA, hkA⟩ : ∃ k : Addr, k = ⟨w4.heap.size, 0, none⟩ := ⟨_, rfl⟩
 obtain ⟨nA, hnA⟩ : ∃ k : Addr, k = ⟨w5.heap.size, 0, none⟩ := ⟨_, rfl⟩
 rw [← hkA] at hT hok ⊢
 rw [← hnA] at hT hoa ⊢
 clear hkA hnA
 obtain ⟨T, hTT⟩ : ∃ T, T = w5.heap.size + 1 := ⟨_, rfl⟩
 rw [← hTT] at hT hfk hfa zA hL ⊢
 have zT : w.heap.size + 1 < T := by omega
 have zBT : B < T := by omega
 have zA2 : T + 2 ≤ WA.heap.size := by omega
 clear hTT zA z1 z2 z3 z4 z5 z4' hB1
 go_loopw [26] (fun i wr => ∃ (k : Nat) (v2 : Value) (rk : List (Ty.D tRule)), i = .int .i64 k ∧ k ≤ 2 ∧ rk = R2.take k ∧ CurT wr B ∧ Dr B w wr ∧ Blk wr w.heap.size 29 #[.slice none 0 0, .slice none 0 0, .slice none 0 0, .slice none 0 0] ∧ Blk wr T 29 #[.slice (some kA) 4 4, v2, .slice (some nA) 1 1, .slice none 0 0] ∧ Blk wr (T + 1) 9 #[vS ru1, vS ru2] ∧ (Ty.sl tKey).ow wr [.slice (some kA) 4 4] K4 fk ∧ (Ty.sl (.sl .str)).ow wr [.slice (some nA) 1 1] [nm_kA] fa ∧ T + 2 ≤ wr.heap.size ∧ DRow tRule wr (T + 2) 128 v2 rk) (fun i _ => 2 - (intOf i).toNat)
 case atStart => exact ⟨0, _, [], rfl, by omega, rfl, CA, DA, hR, hT, hL, hok, hoa, zA2, DRow.nil _ _ _ _⟩
 case round =>
  obtain ⟨k, v2, rk, rfl, hk2, hrk, hcr, hdr, hR', hT', hL', hok', hoa', zr, hR2⟩ := hrel
  clear hR hT hL hok hoa CA DA
  have HRK := Lib.hid hrk
  have hl1 : rk.length ≤ 2 := by rw [hrk]; simp only [List.length_take]; omega
  clear hrk
  have kT0 : wr.cell? ⟨T, 0, none⟩ = some (.slice (some kA) 4 4) := hT'.cell 0
  have kT1 : wr.cell? ⟨T, 1, none⟩ = some v2 := hT'.cell 1
  obtain ⟨A7, c7, rfl⟩ := hR2.form
  have HR := Lib.hid hR2
  clear hR2
  by_cases hlt : k < 2
  ·obtain ⟨sk, ek, htk, hsk⟩ : ∃ s : List UInt8, wr.cell? ⟨T + 1, k, none⟩ = some (vS s) ∧ R2.take (k + 1) = R2.take k ++ [(prS s).1] ∧ s.length ≤ 1000 := by
    rcases (show k = 0 ∨ k = 1 by omega) with rfl | rfl
    ·exact ⟨ru1, hL'.cell 0, rfl, by decide⟩
    ·exact ⟨ru2, hL'.cell 1, rfl, by decide⟩
   have i3 : (0 : Int) ≤ (k : Int) := by omega
   have i4 : (k : Int) < 2 := by omega
   go_wp2_with fail
   refine (C_spec_ParseRule _ sk b_37).mono ?_
   rintro e w6 ⟨cs6, fp6, rfl, how6, hfr6, hb6⟩
   generalize (prS sk).1 = ry at how6 htk ⊢
   obtain ⟨A6, c6, A8, c8, rfl⟩ := ow_Rule how6
   have z6 := hb6.size
   have hT6 := hT'.below hb6 b_37
   have zT6 : T < w6.heap.size := hT6.lt
   have kT6 : w6.cell? ⟨T, 1, none⟩ = some (.slice A7 (List.length rk) c7) := hT6.cell 1
   have HTK := Lib.hid htk
   clear htk
   set_option maxRecDepth 100000 in go_wp2_with (at_builtin; go_loud (refine wpList_append_drow (e := tRule) rfl _ _ 25 rfl wr (T + 2) 128 info_Rule rfl Tryz.underlying25 _ _ rk [ry] b_39 b_39 HR.out (bel_alloc (bel_alloc hb6 _) _) (Src.litE 128 (owAlloc how6 _) (hfr6.mono (Nat.le_refl _) b_30) (by simp only [World.size_alloc])) ?_ ?_ ?_ ?_))
   case refine_1 => simp only [List.length_singleton]; omega
   case refine_2 => simp only [List.length_singleton]; unfold maxLen; omega
   case refine_3 => omega
   intro v' w' hr' hg'
   have hr2 : DRow tRule w' (T + 2) 128 v' (rk ++ [ry]) := hr'
   have hbl := HR.out.block
   have hg0 : ∀ g, (Value.slice A7 (List.length rk) c7).ownBlock = some g → T + 2 ≤ g := fun g hg => (hbl g hg).1
   have hne : ∀ g, g < T + 2 → some g ≠ (Value.slice A7 (List.length rk) c7).ownBlock := fun g hg e => by have := hg0 _ e.symm; omega
   have zg := hg'.size
   simp only [World.size_alloc] at zg
   have D4 : Dr B w w' := Dr.grown (Dr.alloc (Dr.alloc (Dr.then_ hdr hb6) _) _) hg' (fun g hg => by have := hg0 g hg; omega)
   have C4 : CurT w' B := Cur.grown (Cur.alloc (Cur.alloc (Cur.below hcr hb6) _) _) hg' (fun g hg => by have := hg0 g hg; omega)
   have hT9 := ((hT6.alloc (.cells #[.slice A6 (List.length ry.1) c6, .slice A8 (List.length ry.2) c8] 128)).alloc (.cells #[.slice A6 (List.length ry.1) c6, .slice A8 (List.length ry.2) c8] 128)).grown hg' (hne T b_37)
   have hR9 := (((hR'.below hb6 b_37).alloc (.cells #[.slice A6 (List.length ry.1) c6, .slice A8 (List.length ry.2) c8] 128)).alloc (.cells #[.slice A6 (List.length ry.1) c6, .slice A8 (List.length ry.2) c8] 128)).grown hg' (hne w.heap.size b_37)
   have hL9 := (((hL'.below hb6 b_37).alloc (.cells #[.slice A6 (List.length ry.1) c6, .slice A8 (List.length ry.2) c8] 128)).alloc (.cells #[.slice A6 (List.length ry.1) c6, .slice A8 (List.length ry.2) c8] 128)).grown hg' (hne (T + 1) b_37)
   have hok9 := owGrown (owAlloc (owAlloc (owBel hok' hb6) _) _) hfk hg' (fun g hg => by have := hg0 g hg; omega)
   have hoa9 := owGrown (owAlloc (owAlloc (owBel hoa' hb6) _) _) hfa hg' (fun g hg => by have := hg0 g hg; omega)
   have kT9 : w'.cell? ⟨T, 1, none⟩ = some (.slice A7 (List.length rk) c7) := hT9.cell 1
   have fT9 : w'.frozen? ⟨T, 1, none⟩ = false := hT9.f1
   have HL9 := Lib.hid (show (rk ++ [ry]).length = rk.length + 1 by simp)
   obtain ⟨A9, c9, rfl⟩ := hr2.form
   rw [HL9.out] at hr2
   have HR9 := Lib.hid hr2
   clear hr' hr2 hg' hg0 hbl
   go_wp2
   go_roundw
   case rel => exact ⟨k + 1, _, rk ++ [ry], by go_num, by omega, by rw [HTK.out, HRK.out], Cur.far C4 zBT _, Dr.set D4 (.inr b_34) _, hR9.far b_34 _, hT9.set_ 1 _, hL9.far b_34 _, owSetH hok9 hfk b_34 _, owSetH hoa9 hfa b_34 _, by rw [World.size_setCell]; omega, DRow.setN (p := ⟨T, 1, none⟩) HR9.out b_34 _⟩
   case measure => simp [intOf]; omega
  ·obtain ⟨f2, ho2, hf2⟩ := HR.out.ow_
   have hR2 : rk = R2 := by rw [HRK.out, show k = 2 by omega]; rfl
   subst hR2
   go_wp2_with fail
   obtain ⟨WB, hWB⟩ : ∃ WB, WB = (wr.alloc (Obj.cells #[vS [47, 97, 47, 107, 101, 121], vS [47, 98, 47, 107, 101, 121]] 9)) := ⟨_, rfl⟩
   obtain ⟨L2, hL2⟩ : ∃ L, L = wr.heap.size := ⟨_, rfl⟩
   have zW : WB.heap.size = L2 + 1 := by rw [hWB, hL2, World.size_alloc]
   have hL : Blk WB L2 9 #[vS [47, 97, 47, 107, 101, 121], vS [47, 98, 47, 107, 101, 121]] := by rw [hWB, hL2]; exact Blk.new _ _ _
   have CB : CurT WB B := by rw [hWB]; exact Cur.alloc hcr _
   have DB : Dr B w WB := by rw [hWB]; exact Dr.alloc hdr _
   have hRB : Blk WB w.heap.size 29 #[.slice none 0 0, .slice none 0 0, .slice none 0 0, .slice none 0 0] := by rw [hWB]; exact hR'.alloc _
   have hTB : Blk WB T 29 #[.slice (some kA) 4 4, .slice A7 (List.length R2) c7, .slice (some nA) 1 1, .slice none 0 0] := by rw [hWB]; exact hT'.alloc _
   have hokB : (Ty.sl tKey).ow WB [.slice (some kA) 4 4] K4 fk := by rw [hWB]; exact owAlloc hok' _
   have hoaB : (Ty.sl (.sl .str)).ow WB [.slice (some nA) 1 1] [nm_kA] fa := by rw [hWB]; exact owAlloc hoa' _
   have horB : (Ty.sl tRule).ow WB [.slice A7 (List.length R2) c7] R2 f2 := by rw [hWB]; exact owAlloc ho2 _
   rw [← hWB, ← hL2]
   rw [← hL2] at hf2 zr
   clear hWB hL2 hcr hdr hR' hT' hL' hok' hoa' ho2 kT0 kT1 HR HRK hl1
   generalize List.length R2 = nR at *
   go_loopw [44] (fun i wr => ∃ (k : Nat) (v4 : Value) (x4 : List (Ty.D tData)), i = .int .i64 k ∧ k ≤ 2 ∧ x4.length ≤ k ∧ (∀ x ∈ x4, okCert x) ∧ CurT wr B ∧ Dr B w wr ∧ Blk wr w.heap.size 29 #[.slice none 0 0, .slice none 0 0, .slice none 0 0, .slice none 0 0] ∧ Blk wr T 29 #[.slice (some kA) 4 4, .slice A7 nR c7, .slice (some nA) 1 1, v4] ∧ Blk wr L2 9 #[vS [47, 97, 47, 107, 101, 121], vS [47, 98, 47, 107, 101, 121]] ∧ (Ty.sl tKey).ow wr [.slice (some kA) 4 4] K4 fk ∧ (Ty.sl (.sl .str)).ow wr [.slice (some nA) 1 1] [nm_kA] fa ∧ (Ty.sl tRule).ow wr [.slice A7 nR c7] R2 f2 ∧ L2 + 1 ≤ wr.heap.size ∧ DRow tData wr (L2 + 1) 34 v4 x4) (fun i _ => 2 - (intOf i).toNat)
   case atStart => exact ⟨0, _, [], rfl, by omega, by simp, by simp, CB, DB, hRB, hTB, hL, hokB, hoaB, horB, by omega, DRow.nil _ _ _ _⟩
   case round =>
    obtain ⟨k, v4, x4, rfl, hk2, hx4, hcs, hcq, hdq, hRq, hTq, hLq, hokq, hoaq, horq, zq, hR4⟩ := hrel
    clear CB DB hRB hTB hL hokB hoaB horB zW hlt
    obtain ⟨A9, c9, rfl⟩ := hR4.form
    have HR4 := Lib.hid hR4
    have HCS := Lib.hid hcs
    clear hR4 hcs
    obtain ⟨kT0, kT1, kT2, kT3, -, -, -, -, zTq⟩ := bk4 hTq
    by_cases hlt : k < 2
    ·obtain ⟨sk, n, ek, hn, hnn, hsk⟩ : ∃ (s : List UInt8) (n : List (List UInt8)), wr.cell? ⟨L2, k, none⟩ = some (vS s) ∧ (pnS s).1 = n ∧ (n = nm_aK ∨ n = nm_bK) ∧ s.length ≤ 1000 := by
      rcases (show k = 0 ∨ k = 1 by omega) with rfl | rfl
      ·exact ⟨[47, 97, 47, 107, 101, 121], nm_aK, hLq.cell 0, pn_aK, .inl rfl, by decide⟩
      ·exact ⟨[47, 98, 47, 107, 101, 121], nm_bK, hLq.cell 1, pn_bK, .inr rfl, by decide⟩
     have HNN := Lib.hid hnn
     have hnb : Ty.bulk (.sl .str) n ≤ 1048576 := by rcases hnn with rfl | rfl <;> decide
     clear hnn
     have i3 : (0 : Int) ≤ (k : Int) := by omega
     have i4 : (k : Int) < 2 := by omega
     have HC : Hid (∀ V, Below wr.heap.size wr V → V.cell? ⟨T, 0, none⟩ = some (.slice (some kA) 4 4)) := fun V hV => (hV.cell (p := ⟨T, 0, none⟩) zTq).trans kT0
     go_upto_region 11 with fail
     go_cut [10, 11] (fun sp sq wx => ∃ (g : Nat) (B0 : Option Addr) (d0 : Nat) (B1 : Option Addr) (d1 : Nat) (B2 : Option Addr) (d2 : Nat) (fp : List Nat), sp = .pointer (some ⟨g, 0, none⟩) ∧ sq = .bool (f1_IssueCertificate K4 n nm_kA 5000) ∧ Blk wx g 34 #[.slice B0 (List.length (f0_IssueCertificate K4 n nm_kA 5000).1) d0, .slice B1 (List.length (f0_IssueCertificate K4 n nm_kA 5000).2.1) d1, .slice B2 (List.length (f0_IssueCertificate K4 n nm_kA 5000).2.2.1) d2, .int .i64 (f0_IssueCertificate K4 n nm_kA 5000).2.2.2.1, .int .i64 (f0_IssueCertificate K4 n nm_kA 5000).2.2.2.2] ∧ Ty.ow wx tData [.slice B0 (List.length (f0_IssueCertificate K4 n nm_kA 5000).1) d0, .slice B1 (List.length (f0_IssueCertificate K4 n nm_kA 5000).2.1) d1, .slice B2 (List.length (f0_IssueCertificate K4 n nm_kA 5000).2.2.1) d2, .int .i64 (f0_IssueCertificate K4 n nm_kA 5000).2.2.2.1, .int .i64 (f0_IssueCertificate K4 n nm_kA 5000).2.2.2.2] (f0_IssueCertificate K4 n nm_kA 5000) fp ∧ FrI wr.heap.size wx.heap.size fp ∧ Below wr.heap.size wr wx)
     case first =>
      go_wp2_with fail
      refine wp_region_noPanic ?_
      refine wp_region_held_drew (S := (fun W => W.cell? ⟨T, 0, none⟩ = some (.slice (some kA) 4 4))) b_35 ?_ (fun hHeld => ?_)
      ·exact HC.out _ b_4
      refine tkz3 0 2 1 ?_
      try simp only [layz]
      refine rz2 3 9 (fun K hK => ?_) (fun K hK => ?_)
      ·go_simp
       go_at_call 62
       refine (C_spec_l4Of _ sk b_37).mono ?_
       rintro e wa ⟨csa, fpa, rfl, howa, hfra, hba⟩
       have hza := hba.size
       try simp only [World.size_alloc, World.size_drew, size_drewN] at hza
       rw [hn] at howa
       obtain ⟨Aa, ca, rfl⟩ := Ty.ow_slv howa
       refine hK.out _ _ (HC.out _ b_4) (fun hHeld => ?_)
       clear hK K
       try simp only [layz]
       refine rz2 4 9 (fun K hK => ?_) (fun K hK => ?_)
       ·go_simp
        go_at_call 62
        refine (C_spec_l4Of _ [47, 107, 101, 121, 47, 97] b_36).mono ?_
        rintro e wb ⟨csb, fpb, rfl, howb, hfrb, hbb⟩
        have hzb := hbb.size
        try simp only [World.size_alloc, World.size_drew, size_drewN] at hzb
        rw [pn_kA] at howb
        obtain ⟨Ab, cb, rfl⟩ := Ty.ow_slv howb
        refine hK.out _ _ (HC.out _ b_4) (fun hHeld => ?_)
        clear hK K
        try simp only [layz]
        refine rz2 5 9 (fun K hK => ?_) (fun K hK => ?_)
        ·go_simp
         go_at_call 15
         refine (C_spec_IssueCertificate _ _ K4 [_] n [_] nm_kA 5000 (Ty.rd_below b_4 (Ty.ow_rd hokq)) (Ty.rd_below b_4 (Ty.ow_rd howa)) (Ty.rd_below b_4 (Ty.ow_rd howb)) b_36 hnb b_36 b_36).mono ?_
         rintro e wd ⟨csd, fpd, rfl, howd, hfrd, hbd⟩
         have hzd := hbd.size
         try simp only [World.size_alloc, World.size_drew, size_drewN] at hzd
         obtain ⟨B0, d0, B1, d1, B2, d2, rfl⟩ := ow_Data howd
         refine hK.out _ _ (HC.out _ b_4) (fun hHeld => ?_)
         clear hK K
         try simp only [layz]
         refine tkz3 6 7 8 ?_
         try simp only [layz]
         refine rz1 9 (fun K hK => ?_)
         go_simp
         refine hK.out _ _ (HC.out _ b_4) (fun hHeld => ?_)
         clear hK K
         try simp only [layz]
         refine rz1 10 (fun K hK => ?_)
         go_simp
         refine hK.out _ _ (HC.out _ b_4) (fun hHeld => ?_)
         clear hK K
         try simp only [layz]
         refine tkz 11 ?_
         try simp only [layz]
         refine wpAnyH_done b_35 ?_ _
         refine NoPanic.normal ?_
         go_wp2_with fail
         go_meet
         refine ⟨_, B0, d0, B1, d1, B2, d2, fpd, rfl, rfl, ?_, ?_, ?_, ?_⟩
         ·exact Blk.new _ _ _
         ·exact Ty.ow_bel (bel_alloc (Below.refl _ _) _) howd
         ·exact hfrd.mono b_32 b_32
         ·exact b_4
        ·go_simp
         refine hK.out _ _ (HC.out _ b_4) (fun hHeld => ?_)
         clear hK K
         try simp only [layz]
         refine rz1 5 (fun K hK => ?_)
         go_simp
         go_at_call 15
         refine (C_spec_IssueCertificate _ _ K4 [_] n [_] nm_kA 5000 (Ty.rd_below b_4 (Ty.ow_rd hokq)) (Ty.rd_below b_4 (Ty.ow_rd howa)) (Ty.rd_below b_4 (Ty.ow_rd howb)) b_36 hnb b_36 b_36).mono ?_
         rintro e wd ⟨csd, fpd, rfl, howd, hfrd, hbd⟩
         have hzd := hbd.size
         try simp only [World.size_alloc, World.size_drew, size_drewN] at hzd
         obtain ⟨B0, d0, B1, d1, B2, d2, rfl⟩ := ow_Data howd
         refine hK.out _ _ (HC.out _ b_4) (fun hHeld => ?_)
         clear hK K
         try simp only [layz]
         refine tkz3 6 7 8 ?_
         try simp only [layz]
         refine rz1 10 (fun K hK => ?_)
         have hG : Blk wd (wb.heap.size) 34 #[.slice none 0 0, .slice none 0 0, .slice none 0 0, .int .i64 0, .int .i64 0] := by
          refine Blk.below (B := _) ?_ hbd b_32
          first | exact Blk.new _ _ _ | exact Blk.drew (Blk.new _ _ _) | exact Blk.drewN (Blk.new _ _ _) _
         have kG0 : wd.cell? ⟨wb.heap.size, 0, none⟩ = some (.slice none 0 0) := hG.cell 0
         have fG0 := hG.frozen 0
         have kG1 : wd.cell? ⟨wb.heap.size, 1, none⟩ = some (.slice none 0 0) := hG.cell 1
         have fG1 := hG.frozen 1
         have kG2 : wd.cell? ⟨wb.heap.size, 2, none⟩ = some (.slice none 0 0) := hG.cell 2
         have fG2 := hG.frozen 2
         have kG3 : wd.cell? ⟨wb.heap.size, 3, none⟩ = some (.int .i64 0) := hG.cell 3
         have fG3 := hG.frozen 3
         have kG4 : wd.cell? ⟨wb.heap.size, 4, none⟩ = some (.int .i64 0) := hG.cell 4
         have fG4 := hG.frozen 4
         have zG := hG.lt
         go_simp
         refine hK.out _ _ (HC.out _ b_4) (fun hHeld => ?_)
         clear hK K
         try simp only [layz]
         refine tkz 11 ?_
         try simp only [layz]
         refine wpAnyH_done b_35 ?_ _
         refine NoPanic.normal ?_
         go_wp2_with fail
         go_meet
         refine ⟨_, B0, d0, B1, d1, B2, d2, fpd, rfl, rfl, ?_, ?_, ?_, ?_⟩
         ·exact Blk.set_ (Blk.set_ (Blk.set_ (Blk.set_ (Blk.set_ hG 0 _) 1 _) 2 _) 3 _) 4 _
         ·exact Ty.ow_keep b_9 howd
         ·exact hfrd.mono b_32 b_32
         ·exact b_4
       ·go_simp
        refine hK.out _ _ (HC.out _ b_4) (fun hHeld => ?_)
        clear hK K
        try simp only [layz]
        refine rz1 4 (fun K hK => ?_)
        go_simp
        go_at_call 62
        refine (C_spec_l4Of _ [47, 107, 101, 121, 47, 97] b_36).mono ?_
        rintro e wb ⟨csb, fpb, rfl, howb, hfrb, hbb⟩
        have hzb := hbb.size
        try simp only [World.size_alloc, World.size_drew, size_drewN] at hzb
        rw [pn_kA] at howb
        obtain ⟨Ab, cb, rfl⟩ := Ty.ow_slv howb
        refine hK.out _ _ (HC.out _ b_4) (fun hHeld => ?_)
        clear hK K
        try simp only [layz]
        refine rz1 5 (fun K hK => ?_)
        go_simp
        go_at_call 15
        refine (C_spec_IssueCertificate _ _ K4 [_] n [_] nm_kA 5000 (Ty.rd_below b_4 (Ty.ow_rd hokq)) (Ty.rd_below b_4 (Ty.ow_rd howa)) (Ty.rd_below b_4 (Ty.ow_rd howb)) b_36 hnb b_36 b_36).mono ?_
        rintro e wd ⟨csd, fpd, rfl, howd, hfrd, hbd⟩
        have hzd := hbd.size
        try simp only [World.size_alloc, World.size_drew, size_drewN] at hzd
        obtain ⟨B0, d0, B1, d1, B2, d2, rfl⟩ := ow_Data howd
        refine hK.out _ _ (HC.out _ b_4) (fun hHeld => ?_)
        clear hK K
        try simp only [layz]
        refine tkz3 6 7 8 ?_
        try simp only [layz]
        refine rz1 10 (fun K hK => ?_)
        have hG : Blk wd (wa.heap.size) 34 #[.slice none 0 0, .slice none 0 0, .slice none 0 0, .int .i64 0, .int .i64 0] := by
         refine Blk.below (B := _) ?_ hbd b_32
         refine Blk.below (B := _) ?_ hbb b_32
         first | exact Blk.new _ _ _ | exact Blk.drew (Blk.new _ _ _) | exact Blk.drewN (Blk.new _ _ _) _
        have kG0 : wd.cell? ⟨wa.heap.size, 0, none⟩ = some (.slice none 0 0) := hG.cell 0
        have fG0 := hG.frozen 0
        have kG1 : wd.cell? ⟨wa.heap.size, 1, none⟩ = some (.slice none 0 0) := hG.cell 1
        have fG1 := hG.frozen 1
        have kG2 : wd.cell? ⟨wa.heap.size, 2, none⟩ = some (.slice none 0 0) := hG.cell 2
        have fG2 := hG.frozen 2
        have kG3 : wd.cell? ⟨wa.heap.size, 3, none⟩ = some (.int .i64 0) := hG.cell 3
        have fG3 := hG.frozen 3
        have kG4 : wd.cell? ⟨wa.heap.size, 4, none⟩ = some (.int .i64 0) := hG.cell 4
        have fG4 := hG.frozen 4
        have zG := hG.lt
        go_simp
        refine hK.out _ _ (HC.out _ b_4) (fun hHeld => ?_)
        clear hK K
        try simp only [layz]
        refine tkz 11 ?_
        try simp only [layz]
        refine wpAnyH_done b_35 ?_ _
        refine NoPanic.normal ?_
        go_wp2_with fail
        go_meet
        refine ⟨_, B0, d0, B1, d1, B2, d2, fpd, rfl, rfl, ?_, ?_, ?_, ?_⟩
        ·exact Blk.set_ (Blk.set_ (Blk.set_ (Blk.set_ (Blk.set_ hG 0 _) 1 _) 2 _) 3 _) 4 _
        ·exact Ty.ow_keep b_9 howd
        ·exact hfrd.mono b_32 b_32
        ·exact b_4
      ·go_simp
       refine hK.out _ _ (HC.out _ b_4) (fun hHeld => ?_)
       clear hK K
       try simp only [layz]
       refine rz1 3 (fun K hK => ?_)
       go_simp
       go_at_call 62
       refine (C_spec_l4Of _ sk b_37).mono ?_
       rintro e wa ⟨csa, fpa, rfl, howa, hfra, hba⟩
       have hza := hba.size
       try simp only [World.size_alloc, World.size_drew, size_drewN] at hza
       rw [hn] at howa
       obtain ⟨Aa, ca, rfl⟩ := Ty.ow_slv howa
       refine hK.out _ _ (HC.out _ b_4) (fun hHeld => ?_)
       clear hK K
       try simp only [layz]
       refine rz1 4 (fun K hK => ?_)
       go_simp
       go_at_call 62
       refine (C_spec_l4Of _ [47, 107, 101, 121, 47, 97] b_36).mono ?_
       rintro e wb ⟨csb, fpb, rfl, howb, hfrb, hbb⟩
       have hzb := hbb.size
       try simp only [World.size_alloc, World.size_drew, size_drewN] at hzb
       rw [pn_kA] at howb
       obtain ⟨Ab, cb, rfl⟩ := Ty.ow_slv howb
       refine hK.out _ _ (HC.out _ b_4) (fun hHeld => ?_)
       clear hK K
       try simp only [layz]
       refine rz1 5 (fun K hK => ?_)
       go_simp
       go_at_call 15
       refine (C_spec_IssueCertificate _ _ K4 [_] n [_] nm_kA 5000 (Ty.rd_below b_4 (Ty.ow_rd hokq)) (Ty.rd_below b_4 (Ty.ow_rd howa)) (Ty.rd_below b_4 (Ty.ow_rd howb)) b_36 hnb b_36 b_36).mono ?_
       rintro e wd ⟨csd, fpd, rfl, howd, hfrd, hbd⟩
       have hzd := hbd.size
       try simp only [World.size_alloc, World.size_drew, size_drewN] at hzd
       obtain ⟨B0, d0, B1, d1, B2, d2, rfl⟩ := ow_Data howd
       refine hK.out _ _ (HC.out _ b_4) (fun hHeld => ?_)
       clear hK K
       try simp only [layz]
       refine tkz3 6 7 8 ?_
       try simp only [layz]
       refine rz1 10 (fun K hK => ?_)
       have hG : Blk wd (wr.heap.size) 34 #[.slice none 0 0, .slice none 0 0, .slice none 0 0, .int .i64 0, .int .i64 0] := by
        refine Blk.below (B := _) ?_ hbd b_32
        refine Blk.below (B := _) ?_ hbb b_32
        refine Blk.below (B := _) ?_ hba b_32
        first | exact Blk.new _ _ _ | exact Blk.drew (Blk.new _ _ _) | exact Blk.drewN (Blk.new _ _ _) _
       have kG0 : wd.cell? ⟨wr.heap.size, 0, none⟩ = some (.slice none 0 0) := hG.cell 0
       have fG0 := hG.frozen 0
       have kG1 : wd.cell? ⟨wr.heap.size, 1, none⟩ = some (.slice none 0 0) := hG.cell 1
       have fG1 := hG.frozen 1
       have kG2 : wd.cell? ⟨wr.heap.size, 2, none⟩ = some (.slice none 0 0) := hG.cell 2
       have fG2 := hG.frozen 2
       have kG3 : wd.cell? ⟨wr.heap.size, 3, none⟩ = some (.int .i64 0) := hG.cell 3
       have fG3 := hG.frozen 3
       have kG4 : wd.cell? ⟨wr.heap.size, 4, none⟩ = some (.int .i64 0) := hG.cell 4
       have fG4 := hG.frozen 4
       have zG := hG.lt
       go_simp
       refine hK.out _ _ (HC.out _ b_4) (fun hHeld => ?_)
       clear hK K
       try simp only [layz]
       refine tkz 11 ?_
       try simp only [layz]
       refine wpAnyH_done b_35 ?_ _
       refine NoPanic.normal ?_
       go_wp2_with fail
       go_meet
       refine ⟨_, B0, d0, B1, d1, B2, d2, fpd, rfl, rfl, ?_, ?_, ?_, ?_⟩
       ·exact Blk.set_ (Blk.set_ (Blk.set_ (Blk.set_ (Blk.set_ hG 0 _) 1 _) 2 _) 3 _) 4 _
       ·exact Ty.ow_keep b_9 howd
       ·exact hfrd.mono b_32 b_32
       ·exact b_4
     obtain ⟨w7, hwc⟩ : ∃ w7, w7 = wc := ⟨_, rfl⟩
     subst hwc
     obtain ⟨g, B0, d0, B1, d1, B2, d2, fp, rfl, rfl, hG, hx, hfx, hb7⟩ := hcut
     have HB7 := Lib.hid (fun h => data_bulk (okCert_valid (x := f0_IssueCertificate K4 n nm_kA 5000) ⟨n, HNN.out, h, rfl⟩).1)
     have HOK := Lib.hid (fun h => (⟨n, HNN.out, h, rfl⟩ : okCert (f0_IssueCertificate K4 n nm_kA 5000)))
     generalize f0_IssueCertificate K4 n nm_kA 5000 = y at hG hx HB7 HOK
     generalize f1_IssueCertificate K4 n nm_kA 5000 = yes at HB7 HOK ⊢
     have E7 : Dr B wr w7 := Dr.of hb7 B
     have D7 : Dr B w w7 := Dr.then_ hdq hb7
     have hgB : g ≠ B := Cur.neq (Cur.below hcq hb7) hG b_38
     have C7 : CurT w7 B := Cur.below hcq hb7
     have z7 := hb7.size
     have hR7 := hRq.below hb7 b_37
     have hT7 := hTq.below hb7 zTq
     have hL7 := hLq.below hb7 b_37
     have hok7 := owBel hokq hb7
     have hoa7 := owBel hoaq hb7
     have hor7 := owBel horq hb7
     have HR7 := Lib.hid (HR4.out.below hb7)
     clear hRq hTq hLq hokq hoaq horq hb7 hcq hdq HC kT0 kT1 kT2 kT3
     cases yes with
     | false =>
      go_wp2
      go_roundw
      case rel => exact ⟨k + 1, _, x4, by go_num, by omega, by omega, HCS.out, C7, D7, hR7, hT7, hL7, hok7, hoa7, hor7, by omega, HR7.out⟩
      case measure => simp [intOf]; omega
     | true =>
      have kG0 : w7.cell? ⟨g, 0, none⟩ = some (.slice B0 (List.length y.1) d0) := hG.cell 0
      go_wp2_with fail
      refine (C_spec_l1Once _ B 8 b_14 b_36 b_36).mono ?_
      rintro e w8 ⟨hd8, hc8, once, rfl⟩
      have E8 : Dr B w7 w8 := b_5
      have E48 : Dr B wr w8 := E7.trans E8
      have hzG := hG.lt
      have D8 : Dr B w w8 := D7.trans E8
      have z8 := E8.size
      have hR8 := Dr.blk E8 hR7 b_37
      have hT8 := Dr.blk E8 hT7 b_37
      have hL8 := Dr.blk E8 hL7 b_37
      have hok8 := owDr hok7 hfk b_37 E8
      have hoa8 := owDr hoa7 hfa b_37 E8
      have hor8 := owDr hor7 hf2 b_37 E8
      have HR8 := Lib.hid (DRow.dr HR7.out E8 b_37)
      have hx8 := owDr hx hfx b_37 E8
      have hG8 : Blk w8 g 34 _ := Dr.blk E8 hG hgB
      clear hd8 hR7 hT7 hL7 hok7 hoa7 hor7 HR7 hx hG C7 D7
      cases once with
      | true =>
       go_wp2
       go_roundw
       case rel => exact ⟨k + 1, _, x4, by go_num, by omega, by omega, HCS.out, hc8, D8, hR8, hT8, hL8, hok8, hoa8, hor8, by omega, HR8.out⟩
       case measure => simp [intOf]; omega
      | false =>
       obtain ⟨j0, j1, j2, j3, j4, -, -, -, -, -, -⟩ := bk5 hG8
       obtain ⟨-, -, -, jT3, -, -, -, -, zT8⟩ := bk4 hT8
       set_option maxRecDepth 100000 in go_wp2_with (at_builtin; go_loud (refine wpList_append_drowD (e := tData) rfl _ _ 27 rfl wr (L2 + 1) 34 info_Data rfl Tryz.underlying27 _ _ x4 [y] b_39 b_39 HR4.out b_30 (fun b h1 h2 => Dr.block (Dr.alloc E48 _) h2 b_37) (Src.litE 34 hx8 (hfx.mono (Nat.le_refl _) z8) b_27) ?_ ?_ ?_ ?_))
       case refine_1 => simp only [List.length_singleton]; omega
       case refine_2 => simp only [List.length_singleton]; unfold maxLen; omega
       case refine_3 => omega
       intro v' w' hr' hg'
       have hr2 : DRow tData w' (L2 + 1) 34 v' (x4 ++ [y]) := hr'
       have hbl := HR4.out.block
       have hg0 : ∀ g, (Value.slice A9 (List.length x4) c9).ownBlock = some g → L2 + 1 ≤ g := fun g hg => (hbl g hg).1
       have hne : ∀ g, g < L2 + 1 → some g ≠ (Value.slice A9 (List.length x4) c9).ownBlock := fun g hg e => by have := hg0 _ e.symm; omega
       have zg := hg'.size
       simp only [World.size_alloc] at zg
       have D9 : Dr B w w' := Dr.grown (Dr.alloc D8 _) hg' (fun g hg => by have := hg0 g hg; omega)
       have C9 : CurT w' B := Cur.grown (Cur.alloc hc8 _) hg' (fun g hg => by have := hg0 g hg; omega)
       have hT9 := (hT8.alloc (.cells #[.slice B0 (List.length y.1) d0, .slice B1 (List.length y.2.1) d1, .slice B2 (List.length y.2.2.1) d2, .int .i64 y.2.2.2.1, .int .i64 y.2.2.2.2] 34)).grown hg' (hne T b_37)
       have hR9 := (hR8.alloc (.cells #[.slice B0 (List.length y.1) d0, .slice B1 (List.length y.2.1) d1, .slice B2 (List.length y.2.2.1) d2, .int .i64 y.2.2.2.1, .int .i64 y.2.2.2.2] 34)).grown hg' (hne w.heap.size b_37)
       have hL9 := (hL8.alloc (.cells #[.slice B0 (List.length y.1) d0, .slice B1 (List.length y.2.1) d1, .slice B2 (List.length y.2.2.1) d2, .int .i64 y.2.2.2.1, .int .i64 y.2.2.2.2] 34)).grown hg' (hne L2 b_37)
       have hok9 := owGrown (owAlloc hok8 _) hfk hg' (fun g hg => by have := hg0 g hg; omega)
       have hoa9 := owGrown (owAlloc hoa8 _) hfa hg' (fun g hg => by have := hg0 g hg; omega)
       have hor9 := owGrown (owAlloc hor8 _) hf2 hg' (fun g hg => by have := hg0 g hg; omega)
       obtain ⟨-, -, -, kT9, -, -, -, fT9, -⟩ := bk4 hT9
       have HL9 := Lib.hid (show (x4 ++ [y]).length = x4.length + 1 by simp)
       have HCS9 := Lib.hid (show ∀ x ∈ x4 ++ [y], okCert x from fun x hx => by
        rcases List.mem_append.1 hx with hx | hx
        ·exact HCS.out x hx
        ·rw [List.mem_singleton] at hx; subst hx; exact HOK.out (by trivial))
       obtain ⟨A5, c5', rfl⟩ := hr2.form
       rw [HL9.out] at hr2
       have HR9 := Lib.hid hr2
       clear hr' hr2 hg' hg0 hbl
       go_wp2
       go_roundw
       case rel => exact ⟨k + 1, _, x4 ++ [y], by go_num, by omega, by rw [HL9.out]; omega, HCS9.out, Cur.far C9 zBT _, Dr.set D9 (.inr b_34) _, hR9.far b_34 _, hT9.set_ 3 _, hL9.far b_34 _, owSetH hok9 hfk b_34 _, owSetH hoa9 hfa b_34 _, owSet hor9 hf2 b_34 _, by rw [World.size_setCell]; omega, DRow.setN (p := ⟨T, 3, none⟩) HR9.out b_34 _⟩
       case measure => simp [intOf]; omega
    ·have j0 : wr.cell? ⟨w.heap.size, 0, none⟩ = some (.slice none 0 0) := hRq.cell 0
     obtain ⟨-, j1, j2, j3, fr0, fr1, fr2, fr3, -⟩ := bk4 hRq
     obtain ⟨f4, ho4, hf4⟩ := HR4.out.ow_
     have hO9 := ((((hRq.set_ 0 (.slice (some kA) 4 4)).set_ 1 (.slice A7 nR c7)).set_ 2 (.slice (some nA) 1 1)).set_ 3 (.slice A9 (List.length x4) c9))
     have D9 := (Dr.set (Dr.set (Dr.set (Dr.set hdq (p := ⟨w.heap.size, 0, none⟩) (.inr (Nat.le_refl _)) (.slice (some kA) 4 4)) (p := ⟨w.heap.size, 1, none⟩) (.inr (Nat.le_refl _)) (.slice A7 nR c7)) (p := ⟨w.heap.size, 2, none⟩) (.inr (Nat.le_refl _)) (.slice (some nA) 1 1)) (p := ⟨w.heap.size, 3, none⟩) (.inr (Nat.le_refl _)) (.slice A9 (List.length x4) c9))
     have C9 := (Cur.far (Cur.far (Cur.far (Cur.far hcq (p := ⟨w.heap.size, 0, none⟩) hB (.slice (some kA) 4 4)) (p := ⟨w.heap.size, 1, none⟩) hB (.slice A7 nR c7)) (p := ⟨w.heap.size, 2, none⟩) hB (.slice (some nA) 1 1)) (p := ⟨w.heap.size, 3, none⟩) hB (.slice A9 (List.length x4) c9))
     have p1 := (owSet (owSet (owSet (owSet hokq hfk (p := ⟨w.heap.size, 0, none⟩) b_34 (.slice (some kA) 4 4)) hfk (p := ⟨w.heap.size, 1, none⟩) b_34 (.slice A7 nR c7)) hfk (p := ⟨w.heap.size, 2, none⟩) b_34 (.slice (some nA) 1 1)) hfk (p := ⟨w.heap.size, 3, none⟩) b_34 (.slice A9 (List.length x4) c9))
     have p2 := (owSet (owSet (owSet (owSet hoaq hfa (p := ⟨w.heap.size, 0, none⟩) b_34 (.slice (some kA) 4 4)) hfa (p := ⟨w.heap.size, 1, none⟩) b_34 (.slice A7 nR c7)) hfa (p := ⟨w.heap.size, 2, none⟩) b_34 (.slice (some nA) 1 1)) hfa (p := ⟨w.heap.size, 3, none⟩) b_34 (.slice A9 (List.length x4) c9))
     have p3 := (owSet (owSet (owSet (owSet horq hf2 (p := ⟨w.heap.size, 0, none⟩) b_34 (.slice (some kA) 4 4)) hf2 (p := ⟨w.heap.size, 1, none⟩) b_34 (.slice A7 nR c7)) hf2 (p := ⟨w.heap.size, 2, none⟩) b_34 (.slice (some nA) 1 1)) hf2 (p := ⟨w.heap.size, 3, none⟩) b_34 (.slice A9 (List.length x4) c9))
     have p4 := (GRow.set (GRow.set (GRow.set (GRow.set (GRow.ofDRow HR4.out) (p := ⟨w.heap.size, 0, none⟩) (.inl b_34) (.slice (some kA) 4 4)) (p := ⟨w.heap.size, 1, none⟩) (.inl b_34) (.slice A7 nR c7)) (p := ⟨w.heap.size, 2, none⟩) (.inl b_34) (.slice (some nA) 1 1)) (p := ⟨w.heap.size, 3, none⟩) (.inl b_34) (.slice A9 (List.length x4) c9))
     have z9 : wr.heap.size ≤ ((((wr.setCell ⟨w.heap.size, 0, none⟩ (.slice (some kA) 4 4)).setCell ⟨w.heap.size, 1, none⟩ (.slice A7 nR c7)).setCell ⟨w.heap.size, 2, none⟩ (.slice (some nA) 1 1)).setCell ⟨w.heap.size, 3, none⟩ (.slice A9 (List.length x4) c9)).heap.size := by simp only [World.size_setCell]; exact Nat.le_refl _
     clear HR4
     go_wp2_with fail
     generalize ((((wr.setCell ⟨w.heap.size, 0, none⟩ (.slice (some kA) 4 4)).setCell ⟨w.heap.size, 1, none⟩ (.slice A7 nR c7)).setCell ⟨w.heap.size, 2, none⟩ (.slice (some nA) 1 1)).setCell ⟨w.heap.size, 3, none⟩ (.slice A9 (List.length x4) c9)) = w9 at hO9 D9 C9 p1 p2 p3 p4 z9 ⊢
     have j0' : w9.cell? ⟨w.heap.size, 0, none⟩ = some (.slice (some kA) 4 4) := hO9.cell 0
     have j1' : w9.cell? ⟨w.heap.size, 1, none⟩ = some (.slice A7 nR c7) := hO9.cell 1
     have j2' : w9.cell? ⟨w.heap.size, 2, none⟩ = some (.slice (some nA) 1 1) := hO9.cell 2
     have j3' : w9.cell? ⟨w.heap.size, 3, none⟩ = some (.slice A9 (List.length x4) c9) := hO9.cell 3
     refine bodyPost_ret (v := .agg #[.slice (some kA) 4 4, .slice A7 nR c7, .slice (some nA) 1 1, .slice A9 (List.length x4) c9]) (by simp [results, Tryz.results90, go_sem, j0', j1', j2', j3']) rfl ?_
     exact ⟨D9, C9, _, _, _, _, (K4, R2, [nm_kA], x4), fk, f2, fa, T + 2, L2 + 1, rfl, p1, p3, p2, p4, hfk.mono b_37 b_37, hfa.mono b_37 b_37, hf2.mono (Nat.le_refl _) b_37, by omega, by omega, by have := z9; omega, rfl, rfl, rfl, (show List.length x4 ≤ 2 by omega), HCS.out⟩
def DataR (te : TypeId) (w : World) (lo hi : Nat) (cs : List Value) (x : tData.D) : Prop :=
 ∃ v0 v1 v2 f0 f2 m1 m2, cs = [v0, v1, v2, .int .i64 x.2.2.2.1, .int .i64 x.2.2.2.2] ∧ (Ty.sl .str).ow w [v0] x.1 f0 ∧ FrI lo m1 f0 ∧ Row flatB w m1 te v1 x.2.1 ∧ (∀ g, v1.ownBlock = some g → g < m2) ∧
  (Ty.sl .str).ow w [v2] x.2.2.1 f2 ∧ FrI m2 hi f2 ∧ (lo ≤ m1 ∧ m1 ≤ m2 ∧ m2 ≤ hi ∧ hi ≤ w.heap.size) ∧ (-9223372036854775808 ≤ x.2.2.2.1 ∧ x.2.2.2.1 ≤ 9223372036854775807) ∧ (-9223372036854775808 ≤ x.2.2.2.2 ∧ x.2.2.2.2 ≤ 9223372036854775807)
section
variable {te : TypeId} {w w' : World} {lo hi : Nat} {cs : List Value} {x : tData.D}
theorem Row.keep_ {e : Ty} {F : Flat e} {w w' : World} {base : Nat} {te : TypeId} {v : Value} {x : List e.D} (h : Row F w base te v x) (hk : ∀ g, v.ownBlock = some g → w'.heap[g]? = w.heap[g]?) : Row F w' base te v x := by
 refine ⟨⟨h.1.1, ?_⟩, h.2⟩
 rcases h.1.2 with hn | ⟨g, cap, cur, rfl, hbg, hgg, rest⟩
 ·exact .inl hn
 ·exact .inr ⟨g, cap, cur, rfl, hbg, (hk g rfl).trans hgg, rest⟩
theorem DataR.keep (h : DataR te w lo hi cs x) (hs : w.heap.size ≤ w'.heap.size) (hk : ∀ b, lo ≤ b → b < hi → w'.heap[b]? = w.heap[b]?) : DataR te w' lo hi cs x := by
 obtain ⟨v0, v1, v2, f0, f2, m1, m2, h1, h2, h3, h4, h5, h6, h7, h8, h9⟩ := h
 refine ⟨v0, v1, v2, f0, f2, m1, m2, h1, Ty.ow_keep (fun b hb => hk b (h3.2 b hb).1 (by have := (h3.2 b hb).2; omega)) h2, h3, Row.keep_ h4 (fun g hg => hk g (by have := (h4.block g hg).1; omega) (by have := h5 g hg; omega)), h5, Ty.ow_keep (fun b hb => hk b (by have := (h7.2 b hb).1; omega) (h7.2 b hb).2) h6, h7, ⟨h8.1, h8.2.1, h8.2.2.1, Nat.le_trans h8.2.2.2 hs⟩, h9⟩
theorem DataR.below (h : DataR te w lo hi cs x) (hb : Below w.heap.size w w') : DataR te w' lo hi cs x := h.keep hb.size (fun b _ h2 => hb.block b (by obtain ⟨_, _, _, _, _, _, _, _, _, _, _, _, _, _, h8, _⟩ := h; omega))
theorem DataR.alloc (h : DataR te w lo hi cs x) (o : Obj) : DataR te (w.alloc o) lo hi cs x := h.below (bel_alloc (Below.refl _ _) o)
theorem DataR.drew (h : DataR te w lo hi cs x) : DataR te w.drew lo hi cs x := h.below (bel_drew (Below.refl _ _))
theorem DataR.drewN (h : DataR te w lo hi cs x) (n : Nat) : DataR te (w.drewN n) lo hi cs x := h.below (bel_drewN (Below.refl _ _) n)
theorem DataR.set (h : DataR te w lo hi cs x) {p : Addr} (hp : p.block < lo ∨ hi ≤ p.block) (u : Value) : DataR te (w.setCell p u) lo hi cs x :=
 h.keep b_26 (fun b h1 h2 => Below.heap_setCell _ _ _ _ b_37)
theorem DataR.dr {B : Nat} (h : DataR te w lo hi cs x) (hd : Dr B w w') (hB : B < lo) : DataR te w' lo hi cs x := h.keep hd.size (fun b h1 h2 => hd.block (by obtain ⟨_, _, _, _, _, _, _, _, _, _, _, _, _, _, h8, _⟩ := h; omega) b_37)
theorem DataR.mono {lo' hi' : Nat} (h : DataR te w lo hi cs x) (h1 : lo' ≤ lo) (h2 : hi ≤ hi') (h3 : hi' ≤ w.heap.size) : DataR te w lo' hi' cs x := by
 obtain ⟨v0, v1, v2, f0, f2, m1, m2, e1, e2, e3, e4, e5, e6, e7, e8, e9⟩ := h
 exact ⟨v0, v1, v2, f0, f2, m1, m2, e1, e2, e3.mono h1 (Nat.le_refl _), e4, e5, e6, e7.mono (Nat.le_refl _) h2, ⟨by omega, e8.2.1, by omega, h3⟩, e9⟩
theorem Row.own_ {e : Ty} {F : Flat e} {w : World} {base m : Nat} {te : TypeId} {v : Value} {x : List e.D} (h : Row F w base te v x) (hb : base ≤ w.heap.size) (hm : ∀ g, v.ownBlock = some g → g < m) : ∃ fp, (Ty.sl e).ow w [v] x fp ∧ FrI base m fp := by
 obtain ⟨A, c, fp, rfl, how, hfr⟩ := h.own hb
 by_cases h0 : x.length = 0
 ·refine ⟨[], ?_, FrI.nil _ _⟩
  obtain ⟨A', c', e1, e2, e3, e4, e5⟩ := how
  rcases e5 with ⟨e5, e6⟩ | ⟨e5, _⟩
  ·exact ⟨A', c', e1, e2, e3, e4, .inl ⟨e5, rfl⟩⟩
  ·omega
 ·rcases h.1.2 with ⟨e, hn⟩ | ⟨g, cap, cur, e, hbg, hgg, h3, h4, _, htake⟩
  ·omega
  ·simp only [Value.slice.injEq] at e
   obtain ⟨rfl, _, rfl⟩ := e
   refine ⟨fp, how, hfr.1, fun b hb' => ⟨(hfr.2 b hb').1, ?_⟩⟩
   obtain ⟨A', c', e1, e2, e3, e4, e5⟩ := how
   rcases e5 with ⟨e5, e6⟩ | ⟨e5, b2, o2, fs, e6, e7, e8⟩
   ·omega
   ·simp only [List.cons.injEq, Value.slice.injEq, and_true, true_and] at e1
    obtain ⟨e1, _⟩ := e1
    rw [← e1] at e6
    simp only [Option.some.injEq, Addr.mk.injEq] at e6
    have hg := hm g rfl
    rw [e7] at hb'
    rcases List.mem_cons.1 hb' with rfl | hb'
    ·omega
    ·obtain ⟨i, hi, hb'⟩ := List.mem_flatMap.1 hb'
     obtain ⟨ds, _, _, e9⟩ := e8 i (List.mem_range.1 hi)
     rw [((F.ow _ _ _ _).1 e9).2] at hb'
     cases hb'
theorem DataR.ow (h : DataR te w lo hi cs x) : ∃ fp, tData.ow w cs x fp ∧ FrI lo hi fp := by
 obtain ⟨v0, v1, v2, f0, f2, m1, m2, rfl, h2, h3, h4, h5, h6, h7, h8, h9⟩ := h
 obtain ⟨f1, h10, h11⟩ := h4.own_ b_37 h5
 obtain ⟨A0, c0, e0⟩ := Ty.ow_slv h2
 obtain ⟨A2, c2, e2⟩ := Ty.ow_slv h6
 obtain ⟨A1, c1, rfl⟩ := h4.form
 simp only [List.cons.injEq, and_true] at e0 e2
 subst e0 e2
 refine ⟨_, ow_Data_mk h2 h10 h6 h9.1 h9.2, ?_⟩
 exact fr3 (m1 := m1) (m2 := m2) h3 h11 h7 b_37 b_37 b_37
theorem DataR.signed_ {m a b : Int} {v0 v1 v2 : Value} (hm : -9223372036854775808 ≤ m ∧ m ≤ 9223372036854775807) (h : DataR te w lo hi [v0, v1, v2, .int .i64 a, .int .i64 b] x) : DataR te w lo hi [v0, v1, v2, .int .i64 x.2.2.2.1, .int .i64 m] (signed x m) := by
 obtain ⟨u0, u1, u2, f0, f2, m1, m2, h1, h2, h3, h4, h5, h6, h7, h8, h9⟩ := h
 simp only [List.cons.injEq, and_true] at h1
 obtain ⟨rfl, rfl, rfl, _, _⟩ := h1
 exact ⟨_, _, _, f0, f2, m1, m2, rfl, h2, h3, h4, h5, h6, h7, h8, h9.1, hm⟩
theorem DataR.form (h : DataR te w lo hi cs x) : ∃ (A0 : Option Addr) (c0 : Nat) (A1 : Option Addr) (c1 : Nat) (A2 : Option Addr) (c2 : Nat), cs = [.slice A0 (List.length x.1) c0, .slice A1 (List.length x.2.1) c1, .slice A2 (List.length x.2.2.1) c2, .int .i64 x.2.2.2.1, .int .i64 x.2.2.2.2] := by
 obtain ⟨fp, how, _⟩ := h.ow
 exact ow_Data how
theorem DataR.zero (te : TypeId) (w : World) : DataR te w w.heap.size w.heap.size [.slice none 0 0, .slice none 0 0, .slice none 0 0, .int .i64 0, .int .i64 0] zeroData :=
 ⟨_, _, _, [], [], w.heap.size, w.heap.size, rfl, ⟨none, 0, rfl, Nat.le_refl _, ⟨Nat.zero_le _, fun _ => rfl⟩, by decide, .inl ⟨rfl, rfl⟩⟩, FrI.nil _ _, Row.nil _ _ _ _, (fun g h => by cases h), ⟨none, 0, rfl, Nat.le_refl _, ⟨Nat.zero_le _, fun _ => rfl⟩, by decide, .inl ⟨rfl, rfl⟩⟩, FrI.nil _ _, ⟨Nat.le_refl _, Nat.le_refl _, Nat.le_refl _, Nat.le_refl _⟩, by decide, by decide⟩
end
def RetDataR (te : TypeId) (w : World) (x : tData.D) (e : Ending) (w' : World) : Prop := ∃ cs, e = .returned (.agg cs.toArray) ∧ DataR te w' w.heap.size w'.heap.size cs x ∧ Below w.heap.size w w'
def RetDataR2 (te : TypeId) (w : World) (x : tData.D) (u : Value) (e : Ending) (w' : World) : Prop := ∃ cs, e = .returned (.tuple #[.agg cs.toArray, u]) ∧ DataR te w' w.heap.size w'.heap.size cs x ∧ Below w.heap.size w w'
set_option maxRecDepth 100000 in
set_option maxHeartbeats 2000000 in
theorem C_spec_l8CopyR (w : World) (cs : List Value) (x : tData.D) (h : tData.rd w cs x) (s0 : Ty.bulk tData x ≤ 1000000000) :
  Calls Tryz.prog 139 #[.agg cs.toArray] w (RetDataR 5 w x) := by
 obtain ⟨As0, cs0, As1, cs1, As2, cs2, rfl, sg0, sg1, sg2, sg3, sg4⟩ := rd_Data h
 obtain ⟨l0, l1, l2⟩ := data_parts s0
 go_enter Tryz.func139, Tryz.ntmps139
 go_wp2_with fail
 refine (C_spec_l4Copy _ _ x.1 (Ty.rd_below b_10 sg0) b_37).mono ?_
 rintro e w0 ⟨cs0, fp0, rfl, how0, hfr0, hb0⟩
 obtain ⟨A0, c0, rfl⟩ := Ty.ow_slv how0
 have hz0 := hb0.size
 simp only [World.size_alloc, World.size_setCell] at hz0
 have hw0 : Below w.heap.size w w0 := bel_trans b_10 hb0
 have hB0 : Blk w0 (w.heap.size) 34 #[.slice As0 (List.length x.1) cs0, .slice As1 (List.length x.2.1) cs1, .slice As2 (List.length x.2.2.1) cs2, .int .i64 x.2.2.2.1, .int .i64 x.2.2.2.2] := (((Blk.new w 34 #[.slice As0 (List.length x.1) cs0, .slice As1 (List.length x.2.1) cs1, .slice As2 (List.length x.2.2.1) cs2, .int .i64 x.2.2.2.1, .int .i64 x.2.2.2.2]).alloc _).alloc _).below hb0 b_30
 have hR0 : Blk w0 (w.heap.size + 1) 34 #[.slice none 0 0, .slice none 0 0, .slice none 0 0, .int .i64 0, .int .i64 0] := ((show Blk ((w.alloc (.cells #[.slice As0 (List.length x.1) cs0, .slice As1 (List.length x.2.1) cs1, .slice As2 (List.length x.2.2.1) cs2, .int .i64 x.2.2.2.1, .int .i64 x.2.2.2.2] 34)).alloc (.cells #[.slice none 0 0, .slice none 0 0, .slice none 0 0, .int .i64 0, .int .i64 0] 34)) (w.heap.size + 1) 34 #[.slice none 0 0, .slice none 0 0, .slice none 0 0, .int .i64 0, .int .i64 0] from by have := Blk.new (w.alloc (.cells #[.slice As0 (List.length x.1) cs0, .slice As1 (List.length x.2.1) cs1, .slice As2 (List.length x.2.2.1) cs2, .int .i64 x.2.2.2.1, .int .i64 x.2.2.2.2] 34)) 34 #[.slice none 0 0, .slice none 0 0, .slice none 0 0, .int .i64 0, .int .i64 0]; rwa [World.size_alloc] at this).alloc _).below hb0 b_30
 have hO0 : Blk w0 (w.heap.size + 1 + 1) 34 #[.slice As0 (List.length x.1) cs0, .slice As1 (List.length x.2.1) cs1, .slice As2 (List.length x.2.2.1) cs2, .int .i64 x.2.2.2.1, .int .i64 x.2.2.2.2] := (show Blk (((w.alloc (.cells #[.slice As0 (List.length x.1) cs0, .slice As1 (List.length x.2.1) cs1, .slice As2 (List.length x.2.2.1) cs2, .int .i64 x.2.2.2.1, .int .i64 x.2.2.2.2] 34)).alloc (.cells #[.slice none 0 0, .slice none 0 0, .slice none 0 0, .int .i64 0, .int .i64 0] 34)).alloc (.cells #[.slice As0 (List.length x.1) cs0, .slice As1 (List.length x.2.1) cs1, .slice As2 (List.length x.2.2.1) cs2, .int .i64 x.2.2.2.1, .int .i64 x.2.2.2.2] 34)) (w.heap.size + 1 + 1) 34 #[.slice As0 (List.length x.1) cs0, .slice As1 (List.length x.2.1) cs1, .slice As2 (List.length x.2.2.1) cs2, .int .i64 x.2.2.2.1, .int .i64 x.2.2.2.2] from by have := Blk.new ((w.alloc (.cells #[.slice As0 (List.length x.1) cs0, .slice As1 (List.length x.2.1) cs1, .slice As2 (List.length x.2.2.1) cs2, .int .i64 x.2.2.2.1, .int .i64 x.2.2.2.2] 34)).alloc (.cells #[.slice none 0 0, .slice none 0 0, .slice none 0 0, .int .i64 0, .int .i64 0] 34)) 34 #[.slice As0 (List.length x.1) cs0, .slice As1 (List.length x.2.1) cs1, .slice As2 (List.length x.2.2.1) cs2, .int .i64 x.2.2.2.1, .int .i64 x.2.2.2.2]; rwa [World.size_alloc, World.size_alloc] at this).below hb0 b_30
 obtain ⟨kB_0_0, kB_0_1, kB_0_2, kB_0_3, kB_0_4, fB_0_0, fB_0_1, fB_0_2, fB_0_3, fB_0_4, zB_0⟩ := bk5 hB0
 obtain ⟨kR_0_0, kR_0_1, kR_0_2, kR_0_3, kR_0_4, fR_0_0, fR_0_1, fR_0_2, fR_0_3, fR_0_4, zR_0⟩ := bk5 hR0
 obtain ⟨kO_0_0, kO_0_1, kO_0_2, kO_0_3, kO_0_4, fO_0_0, fO_0_1, fO_0_2, fO_0_3, fO_0_4, zO_0⟩ := bk5 hO0
 have HL0 : Hid (Row flatB ((w0.setCell ⟨w.heap.size + 1 + 1, 0, none⟩ (.slice A0 (List.length x.1) c0)).alloc (.cells #[] 5)) w0.heap.size 5 (.slice (some ⟨w0.heap.size, 0, none⟩) 0 0) []) := by
  have := Row.lit0 flatB (w0.setCell ⟨w.heap.size + 1 + 1, 0, none⟩ (.slice A0 (List.length x.1) c0)) 5 (Nat.le_refl _)
  simp only [World.size_setCell] at this
  exact Lib.hid this
 go_wp2_with (at_builtin; go_loud (refine wpList_append_row rfl _ _ 22 rfl flatB w0.heap.size 5 infoB rfl Tryz.underlying22 _ _ [] x.2.1 rfl rfl HL0.out (Ty.rd_below (bel_alloc (bel_set hw0 b_34 _) _) sg1) ?_ ?_ ?_ ?_))
 case refine_1 => simp only [List.length_nil]; omega
 case refine_2 => simp only [List.length_nil]; unfold maxLen; omega
 case refine_3 => simp only [World.size_alloc, World.size_setCell]; omega
 intro v1 w1 hr1 hg1
 have hr1' : Row flatB w1 w0.heap.size 5 v1 x.2.1 := hr1
 have hb1 : Below (w0.setCell ⟨w.heap.size + 1 + 1, 0, none⟩ (.slice A0 (List.length x.1) c0)).heap.size (w0.setCell ⟨w.heap.size + 1 + 1, 0, none⟩ (.slice A0 (List.length x.1) c0)) w1 := bel_grown (bel_alloc (Below.refl _ _) _) (by simp only [World.size_alloc, World.size_setCell]; omega) hg1 (fun g hg => by simp [Value.ownBlock] at hg; simp only [World.size_setCell]; omega)
 have HRR := Lib.hid hr1'
 obtain ⟨A1, c1, fp1, rfl, how1, hfr1⟩ := hr1'.own (by have := hb1.size; simp only [World.size_setCell] at this; exact this)
 clear hr1 hr1' hg1 HL0
 have hz1 := hb1.size
 simp only [World.size_alloc, World.size_setCell] at hz1
 have hw1 : Below w.heap.size w w1 := bel_trans b_10 hb1
 clear kB_0_0 fB_0_0 kB_0_1 fB_0_1 kB_0_2 fB_0_2 kB_0_3 fB_0_3 kB_0_4 fB_0_4 kR_0_0 fR_0_0 kR_0_1 fR_0_1 kR_0_2 fR_0_2 kR_0_3 fR_0_3 kR_0_4 fR_0_4 kO_0_0 fO_0_0 kO_0_1 fO_0_1 kO_0_2 fO_0_2 kO_0_3 fO_0_3 kO_0_4 fO_0_4
 have hB1 : Blk w1 (w.heap.size) 34 #[.slice As0 (List.length x.1) cs0, .slice As1 (List.length x.2.1) cs1, .slice As2 (List.length x.2.2.1) cs2, .int .i64 x.2.2.2.1, .int .i64 x.2.2.2.2] := (hB0.far b_34 (.slice A0 (List.length x.1) c0)).below hb1 b_29
 have hR1 : Blk w1 (w.heap.size + 1) 34 #[.slice none 0 0, .slice none 0 0, .slice none 0 0, .int .i64 0, .int .i64 0] := (hR0.far b_34 (.slice A0 (List.length x.1) c0)).below hb1 b_29
 have hO1 : Blk w1 (w.heap.size + 1 + 1) 34 #[.slice A0 (List.length x.1) c0, .slice As1 (List.length x.2.1) cs1, .slice As2 (List.length x.2.2.1) cs2, .int .i64 x.2.2.2.1, .int .i64 x.2.2.2.2] := (hO0.set_ 0 (.slice A0 (List.length x.1) c0)).below hb1 b_29
 obtain ⟨kB_1_0, kB_1_1, kB_1_2, kB_1_3, kB_1_4, fB_1_0, fB_1_1, fB_1_2, fB_1_3, fB_1_4, zB_1⟩ := bk5 hB1
 obtain ⟨kR_1_0, kR_1_1, kR_1_2, kR_1_3, kR_1_4, fR_1_0, fR_1_1, fR_1_2, fR_1_3, fR_1_4, zR_1⟩ := bk5 hR1
 obtain ⟨kO_1_0, kO_1_1, kO_1_2, kO_1_3, kO_1_4, fO_1_0, fO_1_1, fO_1_2, fO_1_3, fO_1_4, zO_1⟩ := bk5 hO1
 go_wp2_with fail
 refine (C_spec_l4Copy _ _ x.2.2.1 (Ty.rd_below (bel_set hw1 b_34 _) sg2) b_37).mono ?_
 rintro e w2 ⟨cs2, fp2, rfl, how2, hfr2, hb2⟩
 obtain ⟨A2, c2, rfl⟩ := Ty.ow_slv how2
 have hz2 := hb2.size
 simp only [World.size_alloc, World.size_setCell] at hz2
 have hw2 : Below w.heap.size w w2 := bel_trans b_10 hb2
 clear kB_1_0 fB_1_0 kB_1_1 fB_1_1 kB_1_2 fB_1_2 kB_1_3 fB_1_3 kB_1_4 fB_1_4 kR_1_0 fR_1_0 kR_1_1 fR_1_1 kR_1_2 fR_1_2 kR_1_3 fR_1_3 kR_1_4 fR_1_4 kO_1_0 fO_1_0 kO_1_1 fO_1_1 kO_1_2 fO_1_2 kO_1_3 fO_1_3 kO_1_4 fO_1_4
 have hB2 : Blk w2 (w.heap.size) 34 #[.slice As0 (List.length x.1) cs0, .slice As1 (List.length x.2.1) cs1, .slice As2 (List.length x.2.2.1) cs2, .int .i64 x.2.2.2.1, .int .i64 x.2.2.2.2] := (hB1.far b_34 (.slice A1 (List.length x.2.1) c1)).below hb2 b_29
 have hR2 : Blk w2 (w.heap.size + 1) 34 #[.slice none 0 0, .slice none 0 0, .slice none 0 0, .int .i64 0, .int .i64 0] := (hR1.far b_34 (.slice A1 (List.length x.2.1) c1)).below hb2 b_29
 have hO2 : Blk w2 (w.heap.size + 1 + 1) 34 #[.slice A0 (List.length x.1) c0, .slice A1 (List.length x.2.1) c1, .slice As2 (List.length x.2.2.1) cs2, .int .i64 x.2.2.2.1, .int .i64 x.2.2.2.2] := (hO1.set_ 1 (.slice A1 (List.length x.2.1) c1)).below hb2 b_29
 obtain ⟨kB_2_0, kB_2_1, kB_2_2, kB_2_3, kB_2_4, fB_2_0, fB_2_1, fB_2_2, fB_2_3, fB_2_4, zB_2⟩ := bk5 hB2
 obtain ⟨kR_2_0, kR_2_1, kR_2_2, kR_2_3, kR_2_4, fR_2_0, fR_2_1, fR_2_2, fR_2_3, fR_2_4, zR_2⟩ := bk5 hR2
 obtain ⟨kO_2_0, kO_2_1, kO_2_2, kO_2_3, kO_2_4, fO_2_0, fO_2_1, fO_2_2, fO_2_3, fO_2_4, zO_2⟩ := bk5 hO2
 go_wp2
 refine bodyPost_ret (v := .agg #[.slice A0 (List.length x.1) c0, .slice A1 (List.length x.2.1) c1, .slice A2 (List.length x.2.2.1) c2, .int .i64 x.2.2.2.1, .int .i64 x.2.2.2.2]) (by simp [results, Tryz.results139, go_sem, kO_2_0, kO_2_1, kO_2_2, kO_2_3, kO_2_4, kR_2_0, kR_2_1, kR_2_2, kR_2_3, kR_2_4, fO_2_0, fO_2_1, fO_2_2, fO_2_3, fO_2_4, fR_2_0, fR_2_1, fR_2_2, fR_2_3, fR_2_4]) rfl ?_
 refine ⟨_, rfl, ⟨_, _, _, fp0, fp2, w0.heap.size, w1.heap.size, rfl, Ty.ow_keep b_3 how0, hfr0.mono b_32 (Nat.le_refl _), (by repeat' (first | (with_reducible exact HRR.out) | (with_reducible refine row_setN ?_ b_33 _) | (with_reducible refine Row.below ?_ hb2))), ?_, Ty.ow_keep b_13 how2, hfr2.mono b_23 b_32, ⟨b_32, b_32, b_32, b_32⟩, sg3, sg4⟩, ?_⟩
 ·exact fun g hg => (HRR.out.block g hg).2
 ·((repeat' (first | (with_reducible exact Below.refl _ _) | (with_reducible assumption) | (with_reducible refine bel_set ?_ b_33 _) | (with_reducible refine bel_alloc ?_ _) | (with_reducible refine bel_drewN ?_ _) | (with_reducible refine bel_drew ?_) | (with_reducible refine bel_trans ?_ (by assumption)))); done)
set_option maxRecDepth 100000 in
set_option maxHeartbeats 2000000 in
theorem C_spec_SignDataR (w : World) (a : Int) (cs : List Value) (x : tData.D) (h : tData.rd w cs x) (i0 : -9223372036854775808 ≤ a ∧ a ≤ 9223372036854775807) (s0 : Ty.bulk tData x ≤ 4000000) :
  Calls Tryz.prog 96 #[.int .i64 a, .agg cs.toArray] w (RetDataR 5 w (f_SignData a x)) := by
 have h' := h
 obtain ⟨As0, cs0, As1, cs1, As2, cs2, rfl, sg0, sg1, sg2, sg3, sg4⟩ := rd_Data h
 have HMB := Lib.hid (mac_bd a (f_SignedPortion x))
 have HLS := Lib.hid (signed_lenB s0)
 have HF := Lib.hid (show f_SignData a x = signed x (mac a (f_SignedPortion x)) from rfl)
 go_enter Tryz.func96, Tryz.ntmps96
 go_wp2_with fail
 refine (C_spec_l8CopyR _ _ x (Ty.rd_below b_10 h') b_37).mono ?_
 rintro e w0 ⟨cs0, rfl, hd0, hb0⟩
 obtain ⟨Ad0, cd0, Ad1, cd1, Ad2, cd2, rfl⟩ := hd0.form
 have HD0 := Lib.hid (hd0.mono (lo' := w.heap.size + 2) b_30 (Nat.le_refl _) (Nat.le_refl _))
 clear hd0
 have hz0 := hb0.size
 simp only [World.size_alloc] at hz0
 have hw0 : Below w.heap.size w w0 := bel_trans b_10 hb0
 have hB0 : Blk w0 (w.heap.size) 34 #[.slice As0 (List.length x.1) cs0, .slice As1 (List.length x.2.1) cs1, .slice As2 (List.length x.2.2.1) cs2, .int .i64 x.2.2.2.1, .int .i64 x.2.2.2.2] := ((Blk.new w 34 #[.slice As0 (List.length x.1) cs0, .slice As1 (List.length x.2.1) cs1, .slice As2 (List.length x.2.2.1) cs2, .int .i64 x.2.2.2.1, .int .i64 x.2.2.2.2]).alloc _).below hb0 b_30
 have hR0 : Blk w0 (w.heap.size + 1) 34 #[.slice none 0 0, .slice none 0 0, .slice none 0 0, .int .i64 0, .int .i64 0] := (show Blk ((w.alloc (.cells #[.slice As0 (List.length x.1) cs0, .slice As1 (List.length x.2.1) cs1, .slice As2 (List.length x.2.2.1) cs2, .int .i64 x.2.2.2.1, .int .i64 x.2.2.2.2] 34)).alloc (.cells #[.slice none 0 0, .slice none 0 0, .slice none 0 0, .int .i64 0, .int .i64 0] 34)) (w.heap.size + 1) 34 #[.slice none 0 0, .slice none 0 0, .slice none 0 0, .int .i64 0, .int .i64 0] from by have := Blk.new (w.alloc (.cells #[.slice As0 (List.length x.1) cs0, .slice As1 (List.length x.2.1) cs1, .slice As2 (List.length x.2.2.1) cs2, .int .i64 x.2.2.2.1, .int .i64 x.2.2.2.2] 34)) 34 #[.slice none 0 0, .slice none 0 0, .slice none 0 0, .int .i64 0, .int .i64 0]; rwa [World.size_alloc] at this).below hb0 b_30
 obtain ⟨kB_0_0, kB_0_1, kB_0_2, kB_0_3, kB_0_4, -, -, -, -, -, zB_0⟩ := bk5 hB0
 go_wp2_with fail
 refine (C_spec_SignedPortionB _ _ x (Ty.rd_below (bel_alloc hw0 _) h') s0).mono ?_
 rintro e w1 ⟨v1, rfl, hr1, hb1⟩
 have hz1 := hb1.size
 simp only [World.size_alloc] at hz1
 have hw1 : Below w.heap.size w w1 := bel_trans (bel_alloc hw0 _) hb1
 have HR1 := Lib.hid (hr1.rd hb1.size)
 clear hr1
 clear kB_0_0 kB_0_1 kB_0_2 kB_0_3 kB_0_4
 have hR1 : Blk w1 (w.heap.size + 1) 34 #[.slice none 0 0, .slice none 0 0, .slice none 0 0, .int .i64 0, .int .i64 0] := (hR0.alloc _).below hb1 b_30
 have hO1 : Blk w1 w0.heap.size 34 #[.slice Ad0 (List.length x.1) cd0, .slice Ad1 (List.length x.2.1) cd1, .slice Ad2 (List.length x.2.2.1) cd2, .int .i64 x.2.2.2.1, .int .i64 x.2.2.2.2] := (Blk.new w0 34 #[.slice Ad0 (List.length x.1) cd0, .slice Ad1 (List.length x.2.1) cd1, .slice Ad2 (List.length x.2.2.1) cd2, .int .i64 x.2.2.2.1, .int .i64 x.2.2.2.2]).below hb1 b_30
 go_wp2_with fail
 refine (C_spec_ComputeMAC _ _ a (f_SignedPortion x) i0 HR1.out (Nat.le_trans HLS.out b_36)).mono ?_
 rintro e w2 ⟨rfl, hb2⟩
 have hz2 := hb2.size
 have hw2 : Below w.heap.size w w2 := bel_trans hw1 hb2
 have hR2 : Blk w2 (w.heap.size + 1) 34 #[.slice none 0 0, .slice none 0 0, .slice none 0 0, .int .i64 0, .int .i64 0] := hR1.below hb2 b_37
 have hO2 : Blk w2 w0.heap.size 34 #[.slice Ad0 (List.length x.1) cd0, .slice Ad1 (List.length x.2.1) cd1, .slice Ad2 (List.length x.2.2.1) cd2, .int .i64 x.2.2.2.1, .int .i64 x.2.2.2.2] := hO1.below hb2 b_37
 obtain ⟨kR_2_0, kR_2_1, kR_2_2, kR_2_3, kR_2_4, fR_2_0, fR_2_1, fR_2_2, fR_2_3, fR_2_4, zR_2⟩ := bk5 hR2
 obtain ⟨kO_2_0, kO_2_1, kO_2_2, kO_2_3, kO_2_4, fO_2_0, fO_2_1, fO_2_2, fO_2_3, fO_2_4, zO_2⟩ := bk5 hO2
 go_wp2
 refine bodyPost_ret (v := .agg #[.slice Ad0 (List.length x.1) cd0, .slice Ad1 (List.length x.2.1) cd1, .slice Ad2 (List.length x.2.2.1) cd2, .int .i64 x.2.2.2.1, .int .i64 (mac a (f_SignedPortion x))]) (by simp [results, Tryz.results96, go_sem, kR_2_0, fR_2_0, kR_2_1, fR_2_1, kR_2_2, fR_2_2, kR_2_3, fR_2_3, kR_2_4, fR_2_4, kO_2_0, fO_2_0, kO_2_1, fO_2_1, kO_2_2, fO_2_2, kO_2_3, fO_2_3, kO_2_4, fO_2_4]) rfl ?_
 rw [HF.out]
 refine ⟨_, rfl, DataR.mono (lo := w.heap.size + 2) (hi := w0.heap.size) (DataR.signed_ (a := x.2.2.2.1) (b := x.2.2.2.2) HMB.out (by repeat' (first | (with_reducible exact HD0.out) | (with_reducible refine DataR.set ?_ (by (try dsimp only); (try simp only [World.size_alloc]); omega) _) | (with_reducible refine DataR.alloc ?_ _) | (with_reducible refine DataR.below ?_ hb2) | (with_reducible refine DataR.below ?_ hb1)))) b_37 b_32 (Nat.le_refl _), ?_⟩
 ((repeat' (first | (with_reducible exact Below.refl _ _) | (with_reducible assumption) | (with_reducible refine bel_set ?_ b_33 _) | (with_reducible refine bel_alloc ?_ _) | (with_reducible refine bel_drewN ?_ _) | (with_reducible refine bel_drew ?_) | (with_reducible refine bel_trans ?_ (by assumption)))); done)
end Go.Proofs.YtldgbnlcnlfmeaaGreat
