/- Texts of this claim, merged by a program: Mad. -/
import Derived.Test.YtldgbnlcnlfmeaaGreatQtP
import Derived.Test.YtldgbnlcnlfmeaaGreatQt15
import Derived.Test.YtldgbnlcnlfmeaaGreatQt17
import Derived.Test.YtldgbnlcnlfmeaaGreatQt4
import Derived.Laws.IdiomStrings
import Derived.Deep.RegionHeld3
import Derived.Deep.DeepCutAuto
namespace Go.Proofs.YtldgbnlcnlfmeaaGreat
open Go.RowKit
set_option linter.unusedVariables false
set_option linter.unusedSimpArgs false
theorem catM {P : Program} (x y z : List UInt8) (h : x ++ y = z) (hl : z.length ≤ 9223372036854775807) : ∀ W : World, (Op.stringOp .add (⟨x.toArray⟩ : ByteArray) ⟨y.toArray⟩).run P W = .ok (vS z) W := by
 intro W
 subst h
 rw [run_string_add_sum W _ _ (by simp [ByteArray.size]; simpa using hl), ByteArray.mk_append_mk]
def six : List (List (List UInt8)) := [[[97], [49]], [[97], [50]], [[97], [120, 45, 49]], [[98], [49]], [[98], [50]], [[98], [120, 45, 49]]]
def okMade (x : Ty.D tData) : Prop := (x.1 = [] ∨ x.1 ∈ six) ∧ Ty.bulk tData x ≤ 400 ∧ (x.2.2.2.1 = 0 ∨ x.2.2.2.1 = 4000) ∧ (0 ≤ x.2.2.2.2 ∧ x.2.2.2.2 ≤ 2147483646)
theorem okMade_more {y : Ty.D tData} (h : okMade y) (hb : Ty.bulk tData y ≤ 200) : okMade (y.1, y.2.1 ++ [1], y.2.2) := by
 refine ⟨h.1, ?_, h.2.2⟩
 have h1 : Ty.bulk (.sl .byte) (y.2.1 ++ [1]) = Ty.bulk (.sl .byte) y.2.1 + 1 := by rw [bulk_app, bulk_one]; rfl
 have h2 : Ty.bulk (.sl .str) y.1 + (Ty.bulk (.sl .byte) y.2.1 + (Ty.bulk (.sl .str) y.2.2.1 + (0 + 0))) ≤ 200 := hb
 show Ty.bulk (.sl .str) y.1 + (Ty.bulk (.sl .byte) (y.2.1 ++ [1]) + (Ty.bulk (.sl .str) y.2.2.1 + (0 + 0))) ≤ 400
 omega
theorem hK4b : Ty.bulk (.sl tKey) K4 ≤ 1048576 := by decide
theorem hb4k : -9223372036854775808 ≤ (4000 : Int) ∧ (4000 : Int) ≤ 9223372036854775807 := by decide
theorem made_pn {s : List UInt8} (h : s ∈ [[97], [98]]) : (pnS (47 :: s)).1 = [s] ∧ (pnS (47 :: (s ++ [47, 107, 101, 121]))).1 = [s, [107, 101, 121]] ∧ s.length ≤ 10 := by
 simp at h; rcases h with rfl | rfl <;> decide
theorem made_ap {s p : List UInt8} (h : s ∈ [[97], [98]]) (hp : p ∈ [[49], [50], [120, 45, 49]]) : apS [s] p = ([s, p], true) ∧ [s, p] ∈ six ∧ p.length ≤ 10 := by
 simp at h hp; rcases h with rfl | rfl <;> rcases hp with rfl | rfl | rfl <;> decide
theorem made_by {q : List UInt8} (h : q ∈ [[47, 98, 97, 100, 47, 107, 101, 121], [47, 107, 101, 121, 47, 97], [47, 97, 47, 107, 101, 121]]) : Ty.bulk (.sl .str) (pnS q).1 ≤ 54 ∧ q.length ≤ 100 := by
 simp at h; rcases h with rfl | rfl | rfl <;> decide
theorem made_key {s : List UInt8} (h : s ∈ [[97], [98]]) : Ty.bulk (.sl .str) [s, [107, 101, 121]] ≤ 54 := by
 simp at h; rcases h with rfl | rfl <;> decide
theorem six_bulk {n : List (List UInt8)} (h : n ∈ six) : Ty.bulk (.sl .str) n ≤ 54 := by
 unfold six at h; simp at h; rcases h with rfl | rfl | rfl | rfl | rfl | rfl <;> decide
theorem okMade_swk {n by_ : List (List UInt8)} {b : List UInt8} (hn : n ∈ six) (hb : Ty.bulk (.sl .str) by_ ≤ 54) (hl : b.length ≤ 3) : okMade (f0_SignWithKey K4 by_ n b 4000) ∧ Ty.bulk tData (f0_SignWithKey K4 by_ n b 4000) ≤ 200 := by
 have h54 := six_bulk hn
 have h4 : Ty.bulk (.sl .byte) b = List.length b := Ty.bulk_flat (fun _ => rfl) _
 have hd := digest_le
 unfold f0_SignWithKey
 split
 ·have hk : Ty.bulk tData (swkX K4 by_ n b 4000) = Ty.bulk (.sl .str) n + (Ty.bulk (.sl .byte) b + Ty.bulk (.sl .str) by_) := swk_bulk by_ n b 4000
  have hm := hd (f_SecretOf K4 by_ :: (f_SignedPortion (swkD by_ n b 4000) ++ [f_SecretOf K4 by_]))
  exact ⟨⟨.inr hn, by rw [hk]; omega, .inr rfl, hm.1, (by show digest _ ≤ _; omega)⟩, by rw [hk]; omega⟩
 ·exact ⟨⟨.inl rfl, by decide, .inl rfl, by decide⟩, by decide⟩
set_option maxRecDepth 100000 in
set_option maxHeartbeats 4000000 in
theorem C_spec_l11Made (w : World) (B : Nat) (hc : CurT w B) (A1 A2 A3 A4 : Option Addr) (n1 n2 n3 n4 c1 c2 c3 c4 : Nat) (h : (Ty.sl tKey).rd (hide B w) [.slice A1 n1 c1] K4) :
  Calls Tryz.prog 91 #[pB B, .agg #[.slice A1 n1 c1, .slice A2 n2 c2, .slice A3 n3 c3, .slice A4 n4 c4]] w (RetDT B w (DrR tData w okMade)) := by
 have hB := hc.lt
 go_enter Tryz.func91, Tryz.ntmps91
 go_wp2_with fail
 refine (C_spec_l1Str _ B _ [[97], [98]] b_14 b_11 b_36 b_36).mono ?_
 rintro e w1 ⟨hd1, hc1, s, hs, rfl⟩
 have hp1 := Lib.hid (made_pn hs)
 have hsl := (made_pn hs).2.2
 have E1 : Dr B w w1 := b_5
 have z1 := hd1.size
 simp only [World.size_alloc] at z1
 have hG1 : Blk w1 w.heap.size 29 #[.slice A1 n1 c1, .slice A2 n2 c2, .slice A3 n3 c3, .slice A4 n4 c4] := Dr.blk hd1 (((Blk.new w _ _).alloc _).alloc _) b_37
 have hR1 : Blk w1 (w.heap.size + 1) 34 #[.slice none 0 0, .slice none 0 0, .slice none 0 0, .int .i64 0, .int .i64 0] := Dr.blk hd1 ((by have := Blk.new (w.alloc (.cells #[.slice A1 n1 c1, .slice A2 n2 c2, .slice A3 n3 c3, .slice A4 n4 c4] 29)) 34 #[.slice none 0 0, .slice none 0 0, .slice none 0 0, .int .i64 0, .int .i64 0]; rwa [World.size_alloc] at this : Blk ((w.alloc (.cells #[.slice A1 n1 c1, .slice A2 n2 c2, .slice A3 n3 c3, .slice A4 n4 c4] 29)).alloc (.cells #[.slice none 0 0, .slice none 0 0, .slice none 0 0, .int .i64 0, .int .i64 0] 34)) (w.heap.size + 1) 34 #[.slice none 0 0, .slice none 0 0, .slice none 0 0, .int .i64 0, .int .i64 0]).alloc _) b_37
 have hq1 := catM (P := Tryz.prog) [47] s (47 :: s) rfl (by rw [List.length_cons]; omega)
 have hq2 := catM (P := Tryz.prog) (47 :: s) [47, 107, 101, 121] (47 :: (s ++ [47, 107, 101, 121])) rfl (by simp; omega)
 clear hd1
 go_wp2_with fail
 refine (C_spec_l4Of _ (47 :: s) (by rw [List.length_cons]; omega)).mono ?_
 rintro e w2 ⟨cs2, fp2, rfl, how2, hfr2, hb2⟩
 rw [hp1.out.1] at how2
 obtain ⟨A2', c2', rfl⟩ := Ty.ow_slv how2
 have z2 := hb2.size
 have E2 : Dr B w w2 := Dr.then_ E1 hb2
 have hc2 := Cur.below hc1 hb2
 have hG2 := hG1.below hb2 b_37
 have hR2 := hR1.below hb2 b_37
 clear hG1 hR1 hc1 hb2
 go_wp2_with fail
 refine (C_spec_l1Str _ B _ [[49], [50], [120, 45, 49]] b_14 b_11 b_36 b_36).mono ?_
 rintro e w3 ⟨hd3, hc3, p, hp, rfl⟩
 have hp3 := Lib.hid (made_ap hs hp)
 have hpl := (made_ap hs hp).2.2
 have F3 : Dr B w2 w3 := b_5
 have z3 := hd3.size
 simp only [World.size_alloc] at z3
 have E3 := E2.trans F3
 have hG3 := Dr.blk F3 hG2 b_37
 have hR3 := Dr.blk F3 hR2 b_37
 have how3 := owDr how2 hfr2 b_37 F3
 clear hd3 hG2 hR2 how2 hc2
 go_wp2_with fail
 refine (C_spec_AppendPart _ _ [s] p (Ty.ow_rd how3) b_38 b_37).mono ?_
 rw [hp3.out.1]
 rintro e w4 ⟨v4, rfl, hr4, hb4⟩
 have z4 := hb4.size
 have E4 : Dr B w w4 := Dr.then_ E3 hb4
 have hc4 := Cur.below hc3 hb4
 have hG4 := hG3.below hb4 b_37
 have hR4 := hR3.below hb4 b_37
 obtain ⟨n, hn⟩ : ∃ n, n = [s, p] := ⟨_, rfl⟩
 have hn6 : n ∈ six := by rw [hn]; exact hp3.out.2.1
 have hr4' : Row flatS w4 w3.heap.size 9 v4 n := by rw [hn]; exact hr4
 obtain ⟨A4', c4', rfl⟩ := hr4'.form
 obtain ⟨fpn, hown4, hfrn⟩ := hr4'.ow b_37
 clear hG3 hR3 hc3 hb4 hr4 hr4' hn how3
 go_wp2_with fail
 refine (C_spec_l4Of _ (47 :: (s ++ [47, 107, 101, 121])) (by simp; omega)).mono ?_
 rintro e w5 ⟨cs5, fp5, rfl, how5, hfr5, hb5⟩
 rw [hp1.out.2.1] at how5
 obtain ⟨A5, c5, rfl⟩ := Ty.ow_slv how5
 have z5 := hb5.size
 simp only [World.size_alloc] at z5
 have F5 : Below w4.heap.size w4 w5 := bel_trans b_10 hb5
 have E5 : Dr B w w5 := Dr.then_ E4 F5
 have hc5 := Cur.below hc4 F5
 have hG5 := hG4.below F5 b_37
 have hR5 := hR4.below F5 b_37
 have hN5 : Blk w5 w4.heap.size 32 #[.slice A4' n.length c4'] := (Blk.new w4 _ _).below hb5 b_31
 have hown5 := owBel hown4 F5
 have hkb := Lib.hid (made_key hs)
 have hfr5' := hfr5.mono (lo' := w4.heap.size + 1) b_31 (Nat.le_refl _)
 obtain ⟨by_, hby⟩ : ∃ b, b = [s, [107, 101, 121]] := ⟨_, rfl⟩
 rw [← hby] at how5
 have hbb : Ty.bulk (.sl .str) by_ ≤ 54 := by rw [hby]; exact hkb.out
 have HL5 := Lib.hid (show by_.length = 2 by rw [hby]; rfl)
 clear hG4 hR4 hc4 hb5 hown4 hby hq1 hq2 hkb hp1 hp3 hs hp hfr5
 go_wp2_with fail
 refine (C_spec_l1Once _ B 6 b_14 b_36 b_36).mono ?_
 rintro e w6 ⟨hd6, hc6, yes, rfl⟩
 have F6 : Dr B w5 w6 := b_5
 have z6 := F6.size
 have E6 := E5.trans F6
 have hG6 := Dr.blk F6 hG5 b_37
 have hR6 := Dr.blk F6 hR5 b_37
 have hN6 := Dr.blk F6 hN5 b_37
 have hown6 := owDr hown5 hfrn b_37 F6
 have how6 := owDr how5 hfr5' b_37 F6
 have hY6 : Blk w6 w5.heap.size 32 #[.slice A5 2 c5] := Dr.blk hd6 (Blk.new w5 _ _) b_37
 clear hd6 hG5 hR5 hN5 hown5 how5 hc5
 cases yes with
 | true =>
  go_wp2_with fail
  refine (C_spec_l1Str _ B _ [[47, 98, 97, 100, 47, 107, 101, 121], [47, 107, 101, 121, 47, 97], [47, 97, 47, 107, 101, 121]] b_14 b_11 b_36 b_36).mono ?_
  rintro e w7 ⟨hd7, hc7, q, hq, rfl⟩
  have hqb := Lib.hid (made_by hq).1
  have hql := (made_by hq).2
  have F7 : Dr B w6 w7 := b_5
  have z7 := hd7.size
  simp only [World.size_alloc] at z7
  have E7 := E6.trans F7
  have hG7 := Dr.blk F7 hG6 b_37
  have hR7 := Dr.blk F7 hR6 b_37
  have hN7 := Dr.blk F7 hN6 b_37
  have hY7 := Dr.blk F7 hY6 b_37
  have hown7 := owDr hown6 hfrn b_37 F7
  clear hd7 hG6 hR6 hN6 hY6 hown6 how6 hc6 hq
  go_wp2_with fail
  refine (C_spec_l4Of _ q b_37).mono ?_
  rintro e w8 ⟨cs8, fp8, rfl, how8, hfr8, hb8⟩
  obtain ⟨A8, c8, rfl⟩ := Ty.ow_slv how8
  have hbb8 := hqb.out
  clear hqb
  generalize (pnS q).1 = by8 at how8 hbb8 ⊢
  have z8 := hb8.size
  have E8 := Dr.then_ E7 hb8
  have hc8 := Cur.below hc7 hb8
  have hG8 := hG7.below hb8 b_37
  have hR8 := hR7.below hb8 b_37
  have hN8 := hN7.below hb8 b_37
  have hY8 := hY7.below hb8 b_37
  have hown8 := owBel hown7 hb8
  have k8 : w8.cell? ⟨w5.heap.size, 0, none⟩ = some (.slice A5 2 c5) := hY8.c1
  have f8 : w8.frozen? ⟨w5.heap.size, 0, none⟩ = false := hY8.f1
  clear hG7 hR7 hN7 hY7 hown7 hc7 hb8
  go_wp2_with fail
  obtain ⟨WT, hWT⟩ : ∃ WT, WT = w8.setCell ⟨w5.heap.size, 0, none⟩ (.slice A8 (List.length by8) c8) := ⟨_, rfl⟩
  have hcT : CurT WT B := by rw [hWT]; exact Cur.far hc8 b_34 _
  have ET : Dr B w WT := by rw [hWT]; exact Dr.set E8 (.inr b_34) _
  have hGT : Blk WT w.heap.size 29 #[.slice A1 n1 c1, .slice A2 n2 c2, .slice A3 n3 c3, .slice A4 n4 c4] := by rw [hWT]; exact hG8.far b_34 _
  have hRT : Blk WT (w.heap.size + 1) 34 #[.slice none 0 0, .slice none 0 0, .slice none 0 0, .int .i64 0, .int .i64 0] := by rw [hWT]; exact hR8.far b_34 _
  have hNT : Blk WT w4.heap.size 32 #[.slice A4' n.length c4'] := by rw [hWT]; exact hN8.far b_34 _
  have hYT : Blk WT w5.heap.size 32 #[.slice A8 (List.length by8) c8] := by rw [hWT]; exact hY8.set_ 0 _
  have rdn : (Ty.sl .str).rd (hide B WT) [.slice A4' n.length c4'] n := by rw [hWT]; exact Ty.ow_rd (ow_hideF (owSetH hown8 hfrn b_34 _) hfrn b_37)
  have rdy : (Ty.sl .str).rd (hide B WT) [.slice A8 (List.length by8) c8] by8 := by rw [hWT]; exact Ty.ow_rd (ow_hideF (owSet how8 hfr8 b_34 _) hfr8 b_37)
  have zT : w5.heap.size < WT.heap.size := hYT.lt
  rw [← hWT]
  clear hWT hG8 hR8 hN8 hY8 hown8 how8 k8 f8 hc8 E8
  have hkT : (Ty.sl tKey).rd (hide B WT) [.slice A1 n1 c1] K4 := Dr.rd ET h
  have zG := hGT.lt
  have zN := hNT.lt
  have HC : Hid (∀ V, Dr B WT V → V.cell? ⟨w.heap.size, 0, none⟩ = some (.slice A1 n1 c1) ∧ V.cell? ⟨w5.heap.size, 0, none⟩ = some (.slice A8 (List.length by8) c8) ∧ V.cell? ⟨w4.heap.size, 0, none⟩ = some (.slice A4' n.length c4')) := fun V hV => ⟨(Dr.blk hV hGT b_37).cell 0, (Dr.blk hV hYT b_37).c1, (Dr.blk hV hNT b_37).c1⟩
  go_upto_region 6 with fail
  go_cut [9, 10] (fun sp sq wx => ∃ (g : Nat) (B0 : Option Addr) (d0 : Nat) (B1 : Option Addr) (d1 : Nat) (B2 : Option Addr) (d2 : Nat) (y : Ty.D tData) (lo hi : Nat) (yes : Bool), sp = .pointer (some ⟨g, 0, none⟩) ∧ sq = .bool yes ∧ Blk wx g 34 #[.slice B0 (List.length y.1) d0, .slice B1 (List.length y.2.1) d1, .slice B2 (List.length y.2.2.1) d2, .int .i64 y.2.2.2.1, .int .i64 y.2.2.2.2] ∧ DataR 5 wx lo hi [.slice B0 (List.length y.1) d0, .slice B1 (List.length y.2.1) d1, .slice B2 (List.length y.2.2.1) d2, .int .i64 y.2.2.2.1, .int .i64 y.2.2.2.2] y ∧ (g < lo ∨ hi ≤ g) ∧ WT.heap.size ≤ g ∧ WT.heap.size ≤ lo ∧ okMade y ∧ Ty.bulk tData y ≤ 200 ∧ CurT wx B ∧ Dr B WT wx)
  case first =>
   go_wp2_with fail
   refine wp_region_noPanic ?_
   refine wp_region_held_drew (S := (fun W => W.cell? ⟨w.heap.size, 0, none⟩ = some (.slice A1 n1 c1) ∧ W.cell? ⟨w5.heap.size, 0, none⟩ = some (.slice A8 (List.length by8) c8) ∧ W.cell? ⟨w4.heap.size, 0, none⟩ = some (.slice A4' n.length c4'))) b_35 ?_ (fun hHeld => ?_)
   ·exact HC.out _ b_5
   refine tkz4 0 2 3 4 ?_
   try simp only [layz]
   refine tkz2 5 1 ?_
   try simp only [layz]
   refine rz2 6 12 (fun K hK => ?_) (fun K hK => ?_)
   ·go_simp
    go_at_call 95
    refine (C_spec_l1Below _ B 4 b_14 b_36 b_36).mono ?_
    rintro e wa ⟨hda, hca, xa, rfl, hxa, hya⟩
    obtain ⟨ka, rfl⟩ : ∃ k : Nat, xa = k := ⟨xa.toNat, by omega⟩
    have hza := hda.size
    try simp only [World.size_alloc, World.size_drew, size_drewN] at hza
    refine hK.out _ _ (HC.out _ b_5) (fun hHeld => ?_)
    clear hK K
    try simp only [layz]
    refine rz2 7 12 (fun K hK => ?_) (fun K hK => ?_)
    ·go_simp
     go_at_call 94
     refine (C_spec_l1Bytes _ B ka b_14 b_37).mono ?_
     rintro e wb ⟨hdb, hcb, Ab, b, cb, fpb, rfl, howb, hfrb, hlb⟩
     subst hlb
     have hzb := hdb.size
     try simp only [World.size_alloc, World.size_drew, size_drewN] at hzb
     have HLB := Lib.hid (show List.length b ≤ 3 by omega)
     have EB : Dr B WT wb := b_5
     have hkb : (Ty.sl tKey).rd wb [.slice A1 n1 c1] K4 := rd_hide (Dr.rd EB hkT)
     have hyb : (Ty.sl .str).rd wb [.slice A8 (List.length by8) c8] by8 := rd_hide (Dr.rd EB rdy)
     have hnb : (Ty.sl .str).rd wb [.slice A4' n.length c4'] n := rd_hide (Dr.rd EB rdn)
     have hbb9 := Ty.ow_rd howb
     have hbl : Ty.bulk (.sl .byte) b ≤ 1048576 := by rw [Ty.bulk_flat (fun _ => rfl)]; have := HLB.out; omega
     have hn54 := six_bulk hn6
     have hs1 : Ty.bulk (.sl .str) by8 ≤ 1048576 := by omega
     have hs2 : Ty.bulk (.sl .str) n ≤ 1048576 := by omega
     have KEYC := Lib.hid (fun W (hW : Below wb.heap.size wb W) => C_spec_SignWithKeyR W (.slice A1 n1 c1) K4 [.slice A8 (List.length by8) c8] by8 [.slice A4' n.length c4'] n (.slice Ab (List.length b) cb) b 4000 (Ty.rd_below hW hkb) (Ty.rd_below hW hyb) (Ty.rd_below hW hnb) (Ty.rd_below hW hbb9) hK4b hs1 hs2 hbl hb4k)
     clear hkb hyb hnb hbb9
     refine hK.out _ _ (HC.out _ b_5) (fun hHeld => ?_)
     clear hK K
     try simp only [layz]
     refine rz2 8 12 (fun K hK => ?_) (fun K hK => ?_)
     ·go_simp
      go_at_call 36
      refine (KEYC.out _ b_10).mono ?_
      have HOKM := Lib.hid (okMade_swk hn6 (by_ := by8) (b := b) b_37 HLB.out)
      generalize f0_SignWithKey K4 by8 n b 4000 = y at HOKM ⊢
      rintro e wd ⟨csd, rfl, hdd, hbd⟩
      obtain ⟨B0, d0, B1, d1, B2, d2, rfl⟩ := hdd.form
      obtain ⟨LO, hLO, hdd2⟩ : ∃ LO, LO = _ ∧ DataR 5 wd LO wd.heap.size _ y := ⟨_, rfl, hdd⟩
      (try simp only [World.size_alloc, World.size_drew, size_drewN] at hLO)
      have HDD := Lib.hid hdd2
      have HLO := Lib.hid hLO
      clear hdd hdd2 hLO
      have hdd : Dr B _ wd := Dr.of hbd B
      have hcd : CurT wd B := Cur.below b_14 hbd
      have hzd := hbd.size
      try simp only [World.size_alloc, World.size_drew, size_drewN] at hzd
      refine hK.out _ _ (HC.out _ b_5) (fun hHeld => ?_)
      clear hK K
      try simp only [layz]
      refine tkz3 9 10 11 ?_
      try simp only [layz]
      refine rz1 12 (fun K hK => ?_)
      go_simp
      refine hK.out _ _ (HC.out _ b_5) (fun hHeld => ?_)
      clear hK K
      try simp only [layz]
      refine rz1 13 (fun K hK => ?_)
      go_simp
      refine hK.out _ _ (HC.out _ b_5) (fun hHeld => ?_)
      clear hK K
      try simp only [layz]
      refine tkz 14 ?_
      try simp only [layz]
      refine wpAnyH_done b_35 ?_ _
      refine NoPanic.normal ?_
      go_wp2_with fail
      go_meet
      refine ⟨_, B0, d0, B1, d1, B2, d2, _, LO, wd.heap.size, _, rfl, rfl, ?_, ?_, ?_, ?_, ?_, HOKM.out.1, HOKM.out.2, ?_, ?_⟩
      ·exact Blk.new _ _ _
      ·have hLO2 := HLO.out; repeat' (first | (with_reducible exact HDD.out) | (with_reducible refine DataR.set ?_ (.inl b_33) _) | (with_reducible refine DataR.set ?_ (.inr b_33) _) | (with_reducible refine DataR.alloc ?_ _) | (with_reducible refine DataR.drewN ?_ _) | (with_reducible refine DataR.drew ?_))
      ·have hLO2 := HLO.out; (try simp only [szz]); omega
      ·(try simp only [szz]); omega
      ·have hLO2 := HLO.out; omega
      ·exact b_14
      ·exact b_5
     ·go_simp
      refine hK.out _ _ (HC.out _ b_5) (fun hHeld => ?_)
      clear hK K
      try simp only [layz]
      refine rz1 8 (fun K hK => ?_)
      go_simp
      go_at_call 36
      refine (KEYC.out _ b_10).mono ?_
      have HOKM := Lib.hid (okMade_swk hn6 (by_ := by8) (b := b) b_37 HLB.out)
      generalize f0_SignWithKey K4 by8 n b 4000 = y at HOKM ⊢
      rintro e wd ⟨csd, rfl, hdd, hbd⟩
      obtain ⟨B0, d0, B1, d1, B2, d2, rfl⟩ := hdd.form
      obtain ⟨LO, hLO, hdd2⟩ : ∃ LO, LO = _ ∧ DataR 5 wd LO wd.heap.size _ y := ⟨_, rfl, hdd⟩
      (try simp only [World.size_alloc, World.size_drew, size_drewN] at hLO)
      have HDD := Lib.hid hdd2
      have HLO := Lib.hid hLO
      clear hdd hdd2 hLO
      have hdd : Dr B _ wd := Dr.of hbd B
      have hcd : CurT wd B := Cur.below b_14 hbd
      have hzd := hbd.size
      try simp only [World.size_alloc, World.size_drew, size_drewN] at hzd
      refine hK.out _ _ (HC.out _ b_5) (fun hHeld => ?_)
      clear hK K
      try simp only [layz]
      refine tkz3 9 10 11 ?_
      try simp only [layz]
      refine rz1 13 (fun K hK => ?_)
      have hG : Blk wd (wb.heap.size) 34 #[.slice none 0 0, .slice none 0 0, .slice none 0 0, .int .i64 0, .int .i64 0] := by
       refine Dr.blk hdd ?_ b_37
       repeat (first | (with_reducible refine Blk.drewN ?_ _) | (with_reducible refine Blk.drew ?_))
       exact Blk.new _ _ _
      have kG0 : wd.cell? ⟨wb.heap.size, 0, none⟩ = some (.slice none 0 0) := hG.cell 0
      have fG0 := hG.frozen 0
      have kG1 : wd.cell? ⟨wb.heap.size, 1, none⟩ = some (.slice none 0 0) := hG.cell 1
      have fG1 := hG.frozen 1
      have kG2 : wd.cell? ⟨wb.heap.size, 2, none⟩ = some (.slice none 0 0) := hG.cell 2
      have fG2 := hG.frozen 2
      have kG3 : wd.cell? ⟨wb.heap.size, 3, none⟩ = some (.int .i64 0) := hG.cell 3
      have fG3 := hG.frozen 3
      have kG4 : wd.cell? ⟨wb.heap.size, 4, none⟩ = some (.int .i64 0) := hG.cell 4
      have fG4 := hG.frozen 4
      have zG := hG.lt
      go_simp
      refine hK.out _ _ (HC.out _ b_5) (fun hHeld => ?_)
      clear hK K
      try simp only [layz]
      refine tkz 14 ?_
      try simp only [layz]
      refine wpAnyH_done b_35 ?_ _
      refine NoPanic.normal ?_
      go_wp2_with fail
      go_meet
      refine ⟨_, B0, d0, B1, d1, B2, d2, _, LO, wd.heap.size, _, rfl, rfl, ?_, ?_, ?_, ?_, ?_, HOKM.out.1, HOKM.out.2, ?_, ?_⟩
      ·exact Blk.set_ (Blk.set_ (Blk.set_ (Blk.set_ (Blk.set_ hG 0 _) 1 _) 2 _) 3 _) 4 _
      ·have hLO2 := HLO.out; repeat' (first | (with_reducible exact HDD.out) | (with_reducible refine DataR.set ?_ (.inl b_33) _) | (with_reducible refine DataR.set ?_ (.inr b_33) _) | (with_reducible refine DataR.alloc ?_ _) | (with_reducible refine DataR.drewN ?_ _) | (with_reducible refine DataR.drew ?_))
      ·have hLO2 := HLO.out; (try simp only [szz]); omega
      ·(try simp only [szz]); omega
      ·have hLO2 := HLO.out; omega
      ·exact b_14
      ·exact b_5
    ·go_simp
     refine hK.out _ _ (HC.out _ b_5) (fun hHeld => ?_)
     clear hK K
     try simp only [layz]
     refine rz1 7 (fun K hK => ?_)
     go_simp
     go_at_call 94
     refine (C_spec_l1Bytes _ B ka b_14 b_37).mono ?_
     rintro e wb ⟨hdb, hcb, Ab, b, cb, fpb, rfl, howb, hfrb, hlb⟩
     subst hlb
     have hzb := hdb.size
     try simp only [World.size_alloc, World.size_drew, size_drewN] at hzb
     have HLB := Lib.hid (show List.length b ≤ 3 by omega)
     have EB : Dr B WT wb := b_5
     have hkb : (Ty.sl tKey).rd wb [.slice A1 n1 c1] K4 := rd_hide (Dr.rd EB hkT)
     have hyb : (Ty.sl .str).rd wb [.slice A8 (List.length by8) c8] by8 := rd_hide (Dr.rd EB rdy)
     have hnb : (Ty.sl .str).rd wb [.slice A4' n.length c4'] n := rd_hide (Dr.rd EB rdn)
     have hbb9 := Ty.ow_rd howb
     have hbl : Ty.bulk (.sl .byte) b ≤ 1048576 := by rw [Ty.bulk_flat (fun _ => rfl)]; have := HLB.out; omega
     have hn54 := six_bulk hn6
     have hs1 : Ty.bulk (.sl .str) by8 ≤ 1048576 := by omega
     have hs2 : Ty.bulk (.sl .str) n ≤ 1048576 := by omega
     have KEYC := Lib.hid (fun W (hW : Below wb.heap.size wb W) => C_spec_SignWithKeyR W (.slice A1 n1 c1) K4 [.slice A8 (List.length by8) c8] by8 [.slice A4' n.length c4'] n (.slice Ab (List.length b) cb) b 4000 (Ty.rd_below hW hkb) (Ty.rd_below hW hyb) (Ty.rd_below hW hnb) (Ty.rd_below hW hbb9) hK4b hs1 hs2 hbl hb4k)
     clear hkb hyb hnb hbb9
     refine hK.out _ _ (HC.out _ b_5) (fun hHeld => ?_)
     clear hK K
     try simp only [layz]
     refine rz1 8 (fun K hK => ?_)
     go_simp
     go_at_call 36
     refine (KEYC.out _ b_10).mono ?_
     have HOKM := Lib.hid (okMade_swk hn6 (by_ := by8) (b := b) b_37 HLB.out)
     generalize f0_SignWithKey K4 by8 n b 4000 = y at HOKM ⊢
     rintro e wd ⟨csd, rfl, hdd, hbd⟩
     obtain ⟨B0, d0, B1, d1, B2, d2, rfl⟩ := hdd.form
     obtain ⟨LO, hLO, hdd2⟩ : ∃ LO, LO = _ ∧ DataR 5 wd LO wd.heap.size _ y := ⟨_, rfl, hdd⟩
     (try simp only [World.size_alloc, World.size_drew, size_drewN] at hLO)
     have HDD := Lib.hid hdd2
     have HLO := Lib.hid hLO
     clear hdd hdd2 hLO
     have hdd : Dr B _ wd := Dr.of hbd B
     have hcd : CurT wd B := Cur.below b_14 hbd
     have hzd := hbd.size
     try simp only [World.size_alloc, World.size_drew, size_drewN] at hzd
     refine hK.out _ _ (HC.out _ b_5) (fun hHeld => ?_)
     clear hK K
     try simp only [layz]
     refine tkz3 9 10 11 ?_
     try simp only [layz]
     refine rz1 13 (fun K hK => ?_)
     have hG : Blk wd (wa.heap.size) 34 #[.slice none 0 0, .slice none 0 0, .slice none 0 0, .int .i64 0, .int .i64 0] := by
      refine Dr.blk hdd ?_ b_37
      repeat (first | (with_reducible refine Blk.drewN ?_ _) | (with_reducible refine Blk.drew ?_))
      refine Dr.blk hdb ?_ b_37
      repeat (first | (with_reducible refine Blk.drewN ?_ _) | (with_reducible refine Blk.drew ?_))
      exact Blk.new _ _ _
     have kG0 : wd.cell? ⟨wa.heap.size, 0, none⟩ = some (.slice none 0 0) := hG.cell 0
     have fG0 := hG.frozen 0
     have kG1 : wd.cell? ⟨wa.heap.size, 1, none⟩ = some (.slice none 0 0) := hG.cell 1
     have fG1 := hG.frozen 1
     have kG2 : wd.cell? ⟨wa.heap.size, 2, none⟩ = some (.slice none 0 0) := hG.cell 2
     have fG2 := hG.frozen 2
     have kG3 : wd.cell? ⟨wa.heap.size, 3, none⟩ = some (.int .i64 0) := hG.cell 3
     have fG3 := hG.frozen 3
     have kG4 : wd.cell? ⟨wa.heap.size, 4, none⟩ = some (.int .i64 0) := hG.cell 4
     have fG4 := hG.frozen 4
     have zG := hG.lt
     go_simp
     refine hK.out _ _ (HC.out _ b_5) (fun hHeld => ?_)
     clear hK K
     try simp only [layz]
     refine tkz 14 ?_
     try simp only [layz]
     refine wpAnyH_done b_35 ?_ _
     refine NoPanic.normal ?_
     go_wp2_with fail
     go_meet
     refine ⟨_, B0, d0, B1, d1, B2, d2, _, LO, wd.heap.size, _, rfl, rfl, ?_, ?_, ?_, ?_, ?_, HOKM.out.1, HOKM.out.2, ?_, ?_⟩
     ·exact Blk.set_ (Blk.set_ (Blk.set_ (Blk.set_ (Blk.set_ hG 0 _) 1 _) 2 _) 3 _) 4 _
     ·have hLO2 := HLO.out; repeat' (first | (with_reducible exact HDD.out) | (with_reducible refine DataR.set ?_ (.inl b_33) _) | (with_reducible refine DataR.set ?_ (.inr b_33) _) | (with_reducible refine DataR.alloc ?_ _) | (with_reducible refine DataR.drewN ?_ _) | (with_reducible refine DataR.drew ?_))
     ·have hLO2 := HLO.out; (try simp only [szz]); omega
     ·(try simp only [szz]); omega
     ·have hLO2 := HLO.out; omega
     ·exact b_14
     ·exact b_5
   ·go_simp
    refine hK.out _ _ (HC.out _ b_5) (fun hHeld => ?_)
    clear hK K
    try simp only [layz]
    refine rz1 6 (fun K hK => ?_)
    go_simp
    go_at_call 95
    refine (C_spec_l1Below _ B 4 b_14 b_36 b_36).mono ?_
    rintro e wa ⟨hda, hca, xa, rfl, hxa, hya⟩
    obtain ⟨ka, rfl⟩ : ∃ k : Nat, xa = k := ⟨xa.toNat, by omega⟩
    have hza := hda.size
    try simp only [World.size_alloc, World.size_drew, size_drewN] at hza
    refine hK.out _ _ (HC.out _ b_5) (fun hHeld => ?_)
    clear hK K
    try simp only [layz]
    refine rz1 7 (fun K hK => ?_)
    go_simp
    go_at_call 94
    refine (C_spec_l1Bytes _ B ka b_14 b_37).mono ?_
    rintro e wb ⟨hdb, hcb, Ab, b, cb, fpb, rfl, howb, hfrb, hlb⟩
    subst hlb
    have hzb := hdb.size
    try simp only [World.size_alloc, World.size_drew, size_drewN] at hzb
    have HLB := Lib.hid (show List.length b ≤ 3 by omega)
    have EB : Dr B WT wb := b_5
    have hkb : (Ty.sl tKey).rd wb [.slice A1 n1 c1] K4 := rd_hide (Dr.rd EB hkT)
    have hyb : (Ty.sl .str).rd wb [.slice A8 (List.length by8) c8] by8 := rd_hide (Dr.rd EB rdy)
    have hnb : (Ty.sl .str).rd wb [.slice A4' n.length c4'] n := rd_hide (Dr.rd EB rdn)
    have hbb9 := Ty.ow_rd howb
    have hbl : Ty.bulk (.sl .byte) b ≤ 1048576 := by rw [Ty.bulk_flat (fun _ => rfl)]; have := HLB.out; omega
    have hn54 := six_bulk hn6
    have hs1 : Ty.bulk (.sl .str) by8 ≤ 1048576 := by omega
    have hs2 : Ty.bulk (.sl .str) n ≤ 1048576 := by omega
    have KEYC := Lib.hid (fun W (hW : Below wb.heap.size wb W) => C_spec_SignWithKeyR W (.slice A1 n1 c1) K4 [.slice A8 (List.length by8) c8] by8 [.slice A4' n.length c4'] n (.slice Ab (List.length b) cb) b 4000 (Ty.rd_below hW hkb) (Ty.rd_below hW hyb) (Ty.rd_below hW hnb) (Ty.rd_below hW hbb9) hK4b hs1 hs2 hbl hb4k)
    clear hkb hyb hnb hbb9
    refine hK.out _ _ (HC.out _ b_5) (fun hHeld => ?_)
    clear hK K
    try simp only [layz]
    refine rz1 8 (fun K hK => ?_)
    go_simp
    go_at_call 36
    refine (KEYC.out _ b_10).mono ?_
    have HOKM := Lib.hid (okMade_swk hn6 (by_ := by8) (b := b) b_37 HLB.out)
    generalize f0_SignWithKey K4 by8 n b 4000 = y at HOKM ⊢
    rintro e wd ⟨csd, rfl, hdd, hbd⟩
    obtain ⟨B0, d0, B1, d1, B2, d2, rfl⟩ := hdd.form
    obtain ⟨LO, hLO, hdd2⟩ : ∃ LO, LO = _ ∧ DataR 5 wd LO wd.heap.size _ y := ⟨_, rfl, hdd⟩
    (try simp only [World.size_alloc, World.size_drew, size_drewN] at hLO)
    have HDD := Lib.hid hdd2
    have HLO := Lib.hid hLO
    clear hdd hdd2 hLO
    have hdd : Dr B _ wd := Dr.of hbd B
    have hcd : CurT wd B := Cur.below b_14 hbd
    have hzd := hbd.size
    try simp only [World.size_alloc, World.size_drew, size_drewN] at hzd
    refine hK.out _ _ (HC.out _ b_5) (fun hHeld => ?_)
    clear hK K
    try simp only [layz]
    refine tkz3 9 10 11 ?_
    try simp only [layz]
    refine rz1 13 (fun K hK => ?_)
    have hG : Blk wd (WT.heap.size) 34 #[.slice none 0 0, .slice none 0 0, .slice none 0 0, .int .i64 0, .int .i64 0] := by
     refine Dr.blk hdd ?_ b_37
     repeat (first | (with_reducible refine Blk.drewN ?_ _) | (with_reducible refine Blk.drew ?_))
     refine Dr.blk hdb ?_ b_37
     repeat (first | (with_reducible refine Blk.drewN ?_ _) | (with_reducible refine Blk.drew ?_))
     refine Dr.blk hda ?_ b_37
     repeat (first | (with_reducible refine Blk.drewN ?_ _) | (with_reducible refine Blk.drew ?_))
     exact Blk.new _ _ _
    have kG0 : wd.cell? ⟨WT.heap.size, 0, none⟩ = some (.slice none 0 0) := hG.cell 0
    have fG0 := hG.frozen 0
    have kG1 : wd.cell? ⟨WT.heap.size, 1, none⟩ = some (.slice none 0 0) := hG.cell 1
    have fG1 := hG.frozen 1
    have kG2 : wd.cell? ⟨WT.heap.size, 2, none⟩ = some (.slice none 0 0) := hG.cell 2
    have fG2 := hG.frozen 2
    have kG3 : wd.cell? ⟨WT.heap.size, 3, none⟩ = some (.int .i64 0) := hG.cell 3
    have fG3 := hG.frozen 3
    have kG4 : wd.cell? ⟨WT.heap.size, 4, none⟩ = some (.int .i64 0) := hG.cell 4
    have fG4 := hG.frozen 4
    have zG := hG.lt
    go_simp
    refine hK.out _ _ (HC.out _ b_5) (fun hHeld => ?_)
    clear hK K
    try simp only [layz]
    refine tkz 14 ?_
    try simp only [layz]
    refine wpAnyH_done b_35 ?_ _
    refine NoPanic.normal ?_
    go_wp2_with fail
    go_meet
    refine ⟨_, B0, d0, B1, d1, B2, d2, _, LO, wd.heap.size, _, rfl, rfl, ?_, ?_, ?_, ?_, ?_, HOKM.out.1, HOKM.out.2, ?_, ?_⟩
    ·exact Blk.set_ (Blk.set_ (Blk.set_ (Blk.set_ (Blk.set_ hG 0 _) 1 _) 2 _) 3 _) 4 _
    ·have hLO2 := HLO.out; repeat' (first | (with_reducible exact HDD.out) | (with_reducible refine DataR.set ?_ (.inl b_33) _) | (with_reducible refine DataR.set ?_ (.inr b_33) _) | (with_reducible refine DataR.alloc ?_ _) | (with_reducible refine DataR.drewN ?_ _) | (with_reducible refine DataR.drew ?_))
    ·have hLO2 := HLO.out; (try simp only [szz]); omega
    ·(try simp only [szz]); omega
    ·have hLO2 := HLO.out; omega
    ·exact b_14
    ·exact b_5
  obtain ⟨w9, hwc⟩ : ∃ w9, w9 = wc := ⟨_, rfl⟩
  subst hwc
  obtain ⟨g, B0, d0, B1, d1, B2, d2, y, lo, hi, yes, rfl, rfl, hG9, hD9, hg9, hgT, hlT, hok9, hbk9, hc9, E9⟩ := hcut
  have hR9 := Dr.blk E9 hRT b_37
  have hBlo : B < lo := by omega
  have hwg : w.heap.size + 1 < g := by omega
  have hBg : B < g := by omega
  have hwlo : w.heap.size + 1 < lo := by omega
  have E9w := ET.trans E9
  clear HC hkT rdn rdy hGT hNT hYT hcT zG zN hRT
  go_wp2_with fail
  refine (C_spec_l1Once _ B 8 b_14 b_36 b_36).mono ?_
  rintro e w10 ⟨hd10, hc10, more, rfl⟩
  have F10 : Dr B w9 w10 := b_5
  have z10 := F10.size
  have E10 := E9w.trans F10
  have hG10 : Blk w10 g 34 _ := Dr.blk F10 hG9 b_37
  have hD10 := hD9.dr F10 hBlo
  have hR10 := Dr.blk F10 hR9 b_37
  clear hd10 hG9 hD9 hR9 hc9 E9 F10
  have zg10 := hG10.lt
  obtain ⟨jG0, jG1, jG2, jG3, jG4, -, -, -, -, -, -⟩ := bk5 hG10
  cases more with
  | false =>
   obtain ⟨fp, how, hfr⟩ := hD10.ow
   obtain ⟨kR0, kR1, kR2, kR3, kR4, fR0, fR1, fR2, fR3, fR4, -⟩ := bk5 hR10
   have zRR := hR10.lt
   have hO9 := (Blk.set_ (Blk.set_ (Blk.set_ (Blk.set_ (Blk.set_ hR10 0 (.slice B0 (List.length y.1) d0)) 1 (.slice B1 (List.length y.2.1) d1)) 2 (.slice B2 (List.length y.2.2.1) d2)) 3 (.int .i64 y.2.2.2.1)) 4 (.int .i64 y.2.2.2.2))
   have D9 := (Dr.set (Dr.set (Dr.set (Dr.set (Dr.set E10 (p := ⟨w.heap.size + 1, 0, none⟩) (.inr b_34) (.slice B0 (List.length y.1) d0)) (p := ⟨w.heap.size + 1, 1, none⟩) (.inr b_34) (.slice B1 (List.length y.2.1) d1)) (p := ⟨w.heap.size + 1, 2, none⟩) (.inr b_34) (.slice B2 (List.length y.2.2.1) d2)) (p := ⟨w.heap.size + 1, 3, none⟩) (.inr b_34) (.int .i64 y.2.2.2.1)) (p := ⟨w.heap.size + 1, 4, none⟩) (.inr b_34) (.int .i64 y.2.2.2.2))
   have C9 := (Cur.far (Cur.far (Cur.far (Cur.far (Cur.far hc10 (p := ⟨w.heap.size + 1, 0, none⟩) b_34 (.slice B0 (List.length y.1) d0)) (p := ⟨w.heap.size + 1, 1, none⟩) b_34 (.slice B1 (List.length y.2.1) d1)) (p := ⟨w.heap.size + 1, 2, none⟩) b_34 (.slice B2 (List.length y.2.2.1) d2)) (p := ⟨w.heap.size + 1, 3, none⟩) b_34 (.int .i64 y.2.2.2.1)) (p := ⟨w.heap.size + 1, 4, none⟩) b_34 (.int .i64 y.2.2.2.2))
   have hoz := (owSet (owSet (owSet (owSet (owSet how hfr (p := ⟨w.heap.size + 1, 0, none⟩) b_34 (.slice B0 (List.length y.1) d0)) hfr (p := ⟨w.heap.size + 1, 1, none⟩) b_34 (.slice B1 (List.length y.2.1) d1)) hfr (p := ⟨w.heap.size + 1, 2, none⟩) b_34 (.slice B2 (List.length y.2.2.1) d2)) hfr (p := ⟨w.heap.size + 1, 3, none⟩) b_34 (.int .i64 y.2.2.2.1)) hfr (p := ⟨w.heap.size + 1, 4, none⟩) b_34 (.int .i64 y.2.2.2.2))
   have z9 : w10.heap.size ≤ (((((w10.setCell ⟨w.heap.size + 1, 0, none⟩ (.slice B0 (List.length y.1) d0)).setCell ⟨w.heap.size + 1, 1, none⟩ (.slice B1 (List.length y.2.1) d1)).setCell ⟨w.heap.size + 1, 2, none⟩ (.slice B2 (List.length y.2.2.1) d2)).setCell ⟨w.heap.size + 1, 3, none⟩ (.int .i64 y.2.2.2.1)).setCell ⟨w.heap.size + 1, 4, none⟩ (.int .i64 y.2.2.2.2)).heap.size := by simp only [World.size_setCell]; exact Nat.le_refl _
   go_wp2_with fail
   generalize (((((w10.setCell ⟨w.heap.size + 1, 0, none⟩ (.slice B0 (List.length y.1) d0)).setCell ⟨w.heap.size + 1, 1, none⟩ (.slice B1 (List.length y.2.1) d1)).setCell ⟨w.heap.size + 1, 2, none⟩ (.slice B2 (List.length y.2.2.1) d2)).setCell ⟨w.heap.size + 1, 3, none⟩ (.int .i64 y.2.2.2.1)).setCell ⟨w.heap.size + 1, 4, none⟩ (.int .i64 y.2.2.2.2)) = wz at hO9 D9 C9 hoz z9 ⊢
   obtain ⟨jz0, jz1, jz2, jz3, jz4, -, -, -, -, -, -⟩ := bk5 hO9
   refine bodyPost_ret (v := .agg #[.slice B0 (List.length y.1) d0, .slice B1 (List.length y.2.1) d1, .slice B2 (List.length y.2.2.1) d2, .int .i64 y.2.2.2.1, .int .i64 y.2.2.2.2]) (by simp [results, Tryz.results91, go_sem, jz0, jz1, jz2, jz3, jz4]) rfl ?_
   exact ⟨D9, C9, _, y, rfl, RdI.of_ow hoz (fun b hb => ⟨by have := (hfr.2 b hb).1; omega, Nat.lt_of_lt_of_le (Ty.ow_lt how b hb) z9⟩) (Nat.le_refl _), hok9⟩
  | true =>
   obtain ⟨u0, u1, u2, f0, f2, m1, m2, hcs, h0, hf0, hrow, hrb, h2, hf2, hbd, hb3, hb4⟩ := hD10
   simp only [List.cons.injEq, and_true] at hcs
   obtain ⟨rfl, rfl, rfl⟩ := hcs
   have hcl := content_lenB hbk9
   have HROW := Lib.hid (GRow.ofRowEx (ex := [g]) rfl hrow (fun q hq hm => by have := (hrow.block q hq).1; have := hrb q hq; simp at hm; omega))
   have hrow' : ∀ q, (Value.slice B1 (List.length y.2.1) d1).ownBlock = some q → m1 ≤ q ∧ q < m2 := fun q hq => ⟨(hrow.block q hq).1, hrb q hq⟩
   clear hrow hrb
   have HL := Lib.hid (show Row flatB (w10.alloc (.cells #[.int .u8 1] 5)) w10.heap.size 5 (.slice (some ⟨w10.heap.size, 0, none⟩) 1 1) [1] from Row.lit1 flatB w10 5 1 trivial (Nat.le_refl _))
   set_option maxRecDepth 100000 in go_wp2_with (at_builtin; go_loud (refine wpList_append_grow (e := .byte) rfl _ _ 22 rfl m1 [g] 5 info_Byte rfl Tryz.underlying22 _ _ y.2.1 [1] rfl rfl (HROW.out.alloc _) (ASrc.flat rfl (HL.out.rd b_32)) ?_ ?_ ?_ ?_ ?_))
   case refine_1 => intro q hq; simp at hq; subst hq; rw [World.size_alloc]; omega
   case refine_2 => simp only [List.length_singleton]; omega
   case refine_3 => simp only [List.length_singleton]; unfold maxLen; omega
   case refine_4 => simp only [World.size_alloc]; omega
   intro v' w' hr' hg'
   have hok9' := okMade_more hok9 hbk9
   have hl1 : (y.2.1 ++ [1]).length ≤ 201 := by rw [List.length_append, List.length_singleton]; omega
   generalize y.2.1 ++ [1] = b9 at hr' hok9' hl1
   obtain ⟨A9, c9, rfl⟩ := hr'.form
   have zg := hg'.size
   simp only [World.size_alloc] at zg
   have hG11 := (hG10.alloc _).grown hg' (fun e => by have := hrow' g e.symm; omega)
   have hR11 := (hR10.alloc _).grown hg' (fun e => by have := hrow' _ e.symm; omega)
   have h0' := ((RdI.of_owF h0 hf0 b_37).alloc _).grown hg' (fun q hq => .inr (hrow' q hq).1)
   have h2' := ((RdI.of_owF h2 hf2 b_37).alloc _).grown hg' (fun q hq => .inl (hrow' q hq).2)
   have E11 := Dr.grown (E10.alloc _) hg' (fun q hq => by have := hrow' q hq; omega)
   have C11 := Cur.grown (hc10.alloc _) hg' (fun q hq => by have := hrow' q hq; omega)
   clear hg' HL HROW hG10 hR10 hc10 E10 jG0 jG1 jG2 jG3 jG4 h0 h2
   obtain ⟨jS0, jS1, jS2, jS3, jS4, -, fS1, -, -, -, -⟩ := bk5 hG11
   obtain ⟨kR0, kR1, kR2, kR3, kR4, fR0, fR1, fR2, fR3, fR4, -⟩ := bk5 hR11
   have zRR := hR11.lt
   have zGG := hG11.lt
   have hne : w.heap.size + 1 ≠ g := by omega
   have hne2 : g ≠ w.heap.size + 1 := by omega
   have hR12 := hR11.far (p := ⟨g, 1, none⟩) b_34 (.slice A9 (List.length b9) c9)
   have E12 := Dr.set E11 (p := ⟨g, 1, none⟩) (.inr b_34) (.slice A9 (List.length b9) c9)
   have C12 := Cur.far C11 (p := ⟨g, 1, none⟩) b_34 (.slice A9 (List.length b9) c9)
   have g0 := h0'.set (p := ⟨g, 1, none⟩) b_34 (.slice A9 (List.length b9) c9)
   have g2 := h2'.set (p := ⟨g, 1, none⟩) b_34 (.slice A9 (List.length b9) c9)
   have g1 := (GRow.set hr' (p := ⟨g, 1, none⟩) (.inr b_38) (.slice A9 (List.length b9) c9)).rdI
   have hO9 := (Blk.set_ (Blk.set_ (Blk.set_ (Blk.set_ (Blk.set_ hR12 0 (.slice B0 (List.length y.1) d0)) 1 (.slice A9 (List.length b9) c9)) 2 (.slice B2 (List.length y.2.2.1) d2)) 3 (.int .i64 y.2.2.2.1)) 4 (.int .i64 y.2.2.2.2))
   have D9 := (Dr.set (Dr.set (Dr.set (Dr.set (Dr.set E12 (p := ⟨w.heap.size + 1, 0, none⟩) (.inr b_34) (.slice B0 (List.length y.1) d0)) (p := ⟨w.heap.size + 1, 1, none⟩) (.inr b_34) (.slice A9 (List.length b9) c9)) (p := ⟨w.heap.size + 1, 2, none⟩) (.inr b_34) (.slice B2 (List.length y.2.2.1) d2)) (p := ⟨w.heap.size + 1, 3, none⟩) (.inr b_34) (.int .i64 y.2.2.2.1)) (p := ⟨w.heap.size + 1, 4, none⟩) (.inr b_34) (.int .i64 y.2.2.2.2))
   have C9 := (Cur.far (Cur.far (Cur.far (Cur.far (Cur.far C12 (p := ⟨w.heap.size + 1, 0, none⟩) b_34 (.slice B0 (List.length y.1) d0)) (p := ⟨w.heap.size + 1, 1, none⟩) b_34 (.slice A9 (List.length b9) c9)) (p := ⟨w.heap.size + 1, 2, none⟩) b_34 (.slice B2 (List.length y.2.2.1) d2)) (p := ⟨w.heap.size + 1, 3, none⟩) b_34 (.int .i64 y.2.2.2.1)) (p := ⟨w.heap.size + 1, 4, none⟩) b_34 (.int .i64 y.2.2.2.2))
   have q0 := (RdI.set (RdI.set (RdI.set (RdI.set (RdI.set g0 (p := ⟨w.heap.size + 1, 0, none⟩) (.inl b_34) (.slice B0 (List.length y.1) d0)) (p := ⟨w.heap.size + 1, 1, none⟩) (.inl b_34) (.slice A9 (List.length b9) c9)) (p := ⟨w.heap.size + 1, 2, none⟩) (.inl b_34) (.slice B2 (List.length y.2.2.1) d2)) (p := ⟨w.heap.size + 1, 3, none⟩) (.inl b_34) (.int .i64 y.2.2.2.1)) (p := ⟨w.heap.size + 1, 4, none⟩) (.inl b_34) (.int .i64 y.2.2.2.2))
   have q1 := (RdI.set (RdI.set (RdI.set (RdI.set (RdI.set g1 (p := ⟨w.heap.size + 1, 0, none⟩) (.inl b_34) (.slice B0 (List.length y.1) d0)) (p := ⟨w.heap.size + 1, 1, none⟩) (.inl b_34) (.slice A9 (List.length b9) c9)) (p := ⟨w.heap.size + 1, 2, none⟩) (.inl b_34) (.slice B2 (List.length y.2.2.1) d2)) (p := ⟨w.heap.size + 1, 3, none⟩) (.inl b_34) (.int .i64 y.2.2.2.1)) (p := ⟨w.heap.size + 1, 4, none⟩) (.inl b_34) (.int .i64 y.2.2.2.2))
   have q2 := (RdI.set (RdI.set (RdI.set (RdI.set (RdI.set g2 (p := ⟨w.heap.size + 1, 0, none⟩) (.inl b_34) (.slice B0 (List.length y.1) d0)) (p := ⟨w.heap.size + 1, 1, none⟩) (.inl b_34) (.slice A9 (List.length b9) c9)) (p := ⟨w.heap.size + 1, 2, none⟩) (.inl b_34) (.slice B2 (List.length y.2.2.1) d2)) (p := ⟨w.heap.size + 1, 3, none⟩) (.inl b_34) (.int .i64 y.2.2.2.1)) (p := ⟨w.heap.size + 1, 4, none⟩) (.inl b_34) (.int .i64 y.2.2.2.2))
   clear g0 g1 g2 hR12 E12 C12 hr' h0' h2' hG11 hR11 E11 C11
   have z9 : w'.heap.size ≤ ((((((w'.setCell ⟨g, 1, none⟩ (.slice A9 (List.length b9) c9)).setCell ⟨w.heap.size + 1, 0, none⟩ (.slice B0 (List.length y.1) d0)).setCell ⟨w.heap.size + 1, 1, none⟩ (.slice A9 (List.length b9) c9)).setCell ⟨w.heap.size + 1, 2, none⟩ (.slice B2 (List.length y.2.2.1) d2)).setCell ⟨w.heap.size + 1, 3, none⟩ (.int .i64 y.2.2.2.1)).setCell ⟨w.heap.size + 1, 4, none⟩ (.int .i64 y.2.2.2.2)).heap.size := by simp only [World.size_setCell]; exact Nat.le_refl _
   have z8 : (w'.setCell ⟨g, 1, none⟩ (.slice A9 (List.length b9) c9)).heap.size ≤ w'.heap.size := by simp only [World.size_setCell]; exact Nat.le_refl _
   go_wp2_with fail
   generalize ((((((w'.setCell ⟨g, 1, none⟩ (.slice A9 (List.length b9) c9)).setCell ⟨w.heap.size + 1, 0, none⟩ (.slice B0 (List.length y.1) d0)).setCell ⟨w.heap.size + 1, 1, none⟩ (.slice A9 (List.length b9) c9)).setCell ⟨w.heap.size + 1, 2, none⟩ (.slice B2 (List.length y.2.2.1) d2)).setCell ⟨w.heap.size + 1, 3, none⟩ (.int .i64 y.2.2.2.1)).setCell ⟨w.heap.size + 1, 4, none⟩ (.int .i64 y.2.2.2.2)) = wz at hO9 D9 C9 q0 q1 q2 z9 ⊢
   obtain ⟨jz0, jz1, jz2, jz3, jz4, -, -, -, -, -, -⟩ := bk5 hO9
   refine bodyPost_ret (v := .agg #[.slice B0 (List.length y.1) d0, .slice A9 (List.length b9) c9, .slice B2 (List.length y.2.2.1) d2, .int .i64 y.2.2.2.1, .int .i64 y.2.2.2.2]) (by simp [results, Tryz.results91, go_sem, jz0, jz1, jz2, jz3, jz4]) rfl ?_
   refine ⟨D9, C9, _, (y.1, b9, y.2.2), rfl, ?_, hok9'⟩
   have mm : wz.heap.size ≤ wz.heap.size := Nat.le_refl _
   exact RdI.pr (q0.mono b_37 b_37 mm) (RdI.pr (q1.mono b_37 b_37 mm) (RdI.pr (q2.mono b_37 b_37 mm) (RdI.pr (RdI.int hb3 mm) (RdI.int hb4 mm))))
 | false =>
  go_wp2_with fail
  have hcT := hc6
  have ET := E6
  have hGT := hG6
  have hRT := hR6
  have hNT := hN6
  have hYT := hY6
  have hl5 := HL5.out
  have rdn : (Ty.sl .str).rd (hide B w6) [.slice A4' n.length c4'] n := Ty.ow_rd (ow_hideF hown6 hfrn b_37)
  have rdy : (Ty.sl .str).rd (hide B w6) [.slice A5 2 c5] by_ := by have := Ty.ow_rd (ow_hideF how6 hfr5' (show B < w4.heap.size + 1 by omega)); rw [hl5] at this; exact this
  have zT : w5.heap.size < w6.heap.size := hYT.lt
  obtain ⟨WT, hWT⟩ : ∃ WT, WT = w6 := ⟨_, rfl⟩
  rw [← hWT] at hcT ET hGT hRT hNT hYT rdn rdy zT ⊢
  clear hWT hG6 hR6 hN6 hY6 hown6 how6 hc6 HL5 hl5
  have hkT : (Ty.sl tKey).rd (hide B WT) [.slice A1 n1 c1] K4 := Dr.rd ET h
  have zG := hGT.lt
  have zN := hNT.lt
  have HC : Hid (∀ V, Dr B WT V → V.cell? ⟨w.heap.size, 0, none⟩ = some (.slice A1 n1 c1) ∧ V.cell? ⟨w5.heap.size, 0, none⟩ = some (.slice A5 2 c5) ∧ V.cell? ⟨w4.heap.size, 0, none⟩ = some (.slice A4' n.length c4')) := fun V hV => ⟨(Dr.blk hV hGT b_37).cell 0, (Dr.blk hV hYT b_37).c1, (Dr.blk hV hNT b_37).c1⟩
  go_upto_region 6 with fail
  go_cut [9, 10] (fun sp sq wx => ∃ (g : Nat) (B0 : Option Addr) (d0 : Nat) (B1 : Option Addr) (d1 : Nat) (B2 : Option Addr) (d2 : Nat) (y : Ty.D tData) (lo hi : Nat) (yes : Bool), sp = .pointer (some ⟨g, 0, none⟩) ∧ sq = .bool yes ∧ Blk wx g 34 #[.slice B0 (List.length y.1) d0, .slice B1 (List.length y.2.1) d1, .slice B2 (List.length y.2.2.1) d2, .int .i64 y.2.2.2.1, .int .i64 y.2.2.2.2] ∧ DataR 5 wx lo hi [.slice B0 (List.length y.1) d0, .slice B1 (List.length y.2.1) d1, .slice B2 (List.length y.2.2.1) d2, .int .i64 y.2.2.2.1, .int .i64 y.2.2.2.2] y ∧ (g < lo ∨ hi ≤ g) ∧ WT.heap.size ≤ g ∧ WT.heap.size ≤ lo ∧ okMade y ∧ Ty.bulk tData y ≤ 200 ∧ CurT wx B ∧ Dr B WT wx)
  case first =>
   go_wp2_with fail
   refine wp_region_noPanic ?_
   refine wp_region_held_drew (S := (fun W => W.cell? ⟨w.heap.size, 0, none⟩ = some (.slice A1 n1 c1) ∧ W.cell? ⟨w5.heap.size, 0, none⟩ = some (.slice A5 2 c5) ∧ W.cell? ⟨w4.heap.size, 0, none⟩ = some (.slice A4' n.length c4'))) b_35 ?_ (fun hHeld => ?_)
   ·exact HC.out _ b_5
   refine tkz4 0 2 3 4 ?_
   try simp only [layz]
   refine tkz2 5 1 ?_
   try simp only [layz]
   refine rz2 6 12 (fun K hK => ?_) (fun K hK => ?_)
   ·go_simp
    go_at_call 95
    refine (C_spec_l1Below _ B 4 b_14 b_36 b_36).mono ?_
    rintro e wa ⟨hda, hca, xa, rfl, hxa, hya⟩
    obtain ⟨ka, rfl⟩ : ∃ k : Nat, xa = k := ⟨xa.toNat, by omega⟩
    have hza := hda.size
    try simp only [World.size_alloc, World.size_drew, size_drewN] at hza
    refine hK.out _ _ (HC.out _ b_5) (fun hHeld => ?_)
    clear hK K
    try simp only [layz]
    refine rz2 7 12 (fun K hK => ?_) (fun K hK => ?_)
    ·go_simp
     go_at_call 94
     refine (C_spec_l1Bytes _ B ka b_14 b_37).mono ?_
     rintro e wb ⟨hdb, hcb, Ab, b, cb, fpb, rfl, howb, hfrb, hlb⟩
     subst hlb
     have hzb := hdb.size
     try simp only [World.size_alloc, World.size_drew, size_drewN] at hzb
     have HLB := Lib.hid (show List.length b ≤ 3 by omega)
     have EB : Dr B WT wb := b_5
     have hkb : (Ty.sl tKey).rd wb [.slice A1 n1 c1] K4 := rd_hide (Dr.rd EB hkT)
     have hyb : (Ty.sl .str).rd wb [.slice A5 2 c5] by_ := rd_hide (Dr.rd EB rdy)
     have hnb : (Ty.sl .str).rd wb [.slice A4' n.length c4'] n := rd_hide (Dr.rd EB rdn)
     have hbb9 := Ty.ow_rd howb
     have hbl : Ty.bulk (.sl .byte) b ≤ 1048576 := by rw [Ty.bulk_flat (fun _ => rfl)]; have := HLB.out; omega
     have hn54 := six_bulk hn6
     have hs1 : Ty.bulk (.sl .str) by_ ≤ 1048576 := by omega
     have hs2 : Ty.bulk (.sl .str) n ≤ 1048576 := by omega
     have KEYC := Lib.hid (fun W (hW : Below wb.heap.size wb W) => C_spec_SignWithKeyR W (.slice A1 n1 c1) K4 [.slice A5 2 c5] by_ [.slice A4' n.length c4'] n (.slice Ab (List.length b) cb) b 4000 (Ty.rd_below hW hkb) (Ty.rd_below hW hyb) (Ty.rd_below hW hnb) (Ty.rd_below hW hbb9) hK4b hs1 hs2 hbl hb4k)
     clear hkb hyb hnb hbb9
     refine hK.out _ _ (HC.out _ b_5) (fun hHeld => ?_)
     clear hK K
     try simp only [layz]
     refine rz2 8 12 (fun K hK => ?_) (fun K hK => ?_)
     ·go_simp
      go_at_call 36
      refine (KEYC.out _ b_10).mono ?_
      have HOKM := Lib.hid (okMade_swk hn6 (by_ := by_) (b := b) b_37 HLB.out)
      generalize f0_SignWithKey K4 by_ n b 4000 = y at HOKM ⊢
      rintro e wd ⟨csd, rfl, hdd, hbd⟩
      obtain ⟨B0, d0, B1, d1, B2, d2, rfl⟩ := hdd.form
      obtain ⟨LO, hLO, hdd2⟩ : ∃ LO, LO = _ ∧ DataR 5 wd LO wd.heap.size _ y := ⟨_, rfl, hdd⟩
      (try simp only [World.size_alloc, World.size_drew, size_drewN] at hLO)
      have HDD := Lib.hid hdd2
      have HLO := Lib.hid hLO
      clear hdd hdd2 hLO
      have hdd : Dr B _ wd := Dr.of hbd B
      have hcd : CurT wd B := Cur.below b_14 hbd
      have hzd := hbd.size
      try simp only [World.size_alloc, World.size_drew, size_drewN] at hzd
      refine hK.out _ _ (HC.out _ b_5) (fun hHeld => ?_)
      clear hK K
      try simp only [layz]
      refine tkz3 9 10 11 ?_
      try simp only [layz]
      refine rz1 12 (fun K hK => ?_)
      go_simp
      refine hK.out _ _ (HC.out _ b_5) (fun hHeld => ?_)
      clear hK K
      try simp only [layz]
      refine rz1 13 (fun K hK => ?_)
      go_simp
      refine hK.out _ _ (HC.out _ b_5) (fun hHeld => ?_)
      clear hK K
      try simp only [layz]
      refine tkz 14 ?_
      try simp only [layz]
      refine wpAnyH_done b_35 ?_ _
      refine NoPanic.normal ?_
      go_wp2_with fail
      go_meet
      refine ⟨_, B0, d0, B1, d1, B2, d2, _, LO, wd.heap.size, _, rfl, rfl, ?_, ?_, ?_, ?_, ?_, HOKM.out.1, HOKM.out.2, ?_, ?_⟩
      ·exact Blk.new _ _ _
      ·have hLO2 := HLO.out; repeat' (first | (with_reducible exact HDD.out) | (with_reducible refine DataR.set ?_ (.inl b_33) _) | (with_reducible refine DataR.set ?_ (.inr b_33) _) | (with_reducible refine DataR.alloc ?_ _) | (with_reducible refine DataR.drewN ?_ _) | (with_reducible refine DataR.drew ?_))
      ·have hLO2 := HLO.out; (try simp only [szz]); omega
      ·(try simp only [szz]); omega
      ·have hLO2 := HLO.out; omega
      ·exact b_14
      ·exact b_5
     ·go_simp
      refine hK.out _ _ (HC.out _ b_5) (fun hHeld => ?_)
      clear hK K
      try simp only [layz]
      refine rz1 8 (fun K hK => ?_)
      go_simp
      go_at_call 36
      refine (KEYC.out _ b_10).mono ?_
      have HOKM := Lib.hid (okMade_swk hn6 (by_ := by_) (b := b) b_37 HLB.out)
      generalize f0_SignWithKey K4 by_ n b 4000 = y at HOKM ⊢
      rintro e wd ⟨csd, rfl, hdd, hbd⟩
      obtain ⟨B0, d0, B1, d1, B2, d2, rfl⟩ := hdd.form
      obtain ⟨LO, hLO, hdd2⟩ : ∃ LO, LO = _ ∧ DataR 5 wd LO wd.heap.size _ y := ⟨_, rfl, hdd⟩
      (try simp only [World.size_alloc, World.size_drew, size_drewN] at hLO)
      have HDD := Lib.hid hdd2
      have HLO := Lib.hid hLO
      clear hdd hdd2 hLO
      have hdd : Dr B _ wd := Dr.of hbd B
      have hcd : CurT wd B := Cur.below b_14 hbd
      have hzd := hbd.size
      try simp only [World.size_alloc, World.size_drew, size_drewN] at hzd
      refine hK.out _ _ (HC.out _ b_5) (fun hHeld => ?_)
      clear hK K
      try simp only [layz]
      refine tkz3 9 10 11 ?_
      try simp only [layz]
      refine rz1 13 (fun K hK => ?_)
      have hG : Blk wd (wb.heap.size) 34 #[.slice none 0 0, .slice none 0 0, .slice none 0 0, .int .i64 0, .int .i64 0] := by
       refine Dr.blk hdd ?_ b_37
       repeat (first | (with_reducible refine Blk.drewN ?_ _) | (with_reducible refine Blk.drew ?_))
       exact Blk.new _ _ _
      have kG0 : wd.cell? ⟨wb.heap.size, 0, none⟩ = some (.slice none 0 0) := hG.cell 0
      have fG0 := hG.frozen 0
      have kG1 : wd.cell? ⟨wb.heap.size, 1, none⟩ = some (.slice none 0 0) := hG.cell 1
      have fG1 := hG.frozen 1
      have kG2 : wd.cell? ⟨wb.heap.size, 2, none⟩ = some (.slice none 0 0) := hG.cell 2
      have fG2 := hG.frozen 2
      have kG3 : wd.cell? ⟨wb.heap.size, 3, none⟩ = some (.int .i64 0) := hG.cell 3
      have fG3 := hG.frozen 3
      have kG4 : wd.cell? ⟨wb.heap.size, 4, none⟩ = some (.int .i64 0) := hG.cell 4
      have fG4 := hG.frozen 4
      have zG := hG.lt
      go_simp
      refine hK.out _ _ (HC.out _ b_5) (fun hHeld => ?_)
      clear hK K
      try simp only [layz]
      refine tkz 14 ?_
      try simp only [layz]
      refine wpAnyH_done b_35 ?_ _
      refine NoPanic.normal ?_
      go_wp2_with fail
      go_meet
      refine ⟨_, B0, d0, B1, d1, B2, d2, _, LO, wd.heap.size, _, rfl, rfl, ?_, ?_, ?_, ?_, ?_, HOKM.out.1, HOKM.out.2, ?_, ?_⟩
      ·exact Blk.set_ (Blk.set_ (Blk.set_ (Blk.set_ (Blk.set_ hG 0 _) 1 _) 2 _) 3 _) 4 _
      ·have hLO2 := HLO.out; repeat' (first | (with_reducible exact HDD.out) | (with_reducible refine DataR.set ?_ (.inl b_33) _) | (with_reducible refine DataR.set ?_ (.inr b_33) _) | (with_reducible refine DataR.alloc ?_ _) | (with_reducible refine DataR.drewN ?_ _) | (with_reducible refine DataR.drew ?_))
      ·have hLO2 := HLO.out; (try simp only [szz]); omega
      ·(try simp only [szz]); omega
      ·have hLO2 := HLO.out; omega
      ·exact b_14
      ·exact b_5
    ·go_simp
     refine hK.out _ _ (HC.out _ b_5) (fun hHeld => ?_)
     clear hK K
     try simp only [layz]
     refine rz1 7 (fun K hK => ?_)
     go_simp
     go_at_call 94
     refine (C_spec_l1Bytes _ B ka b_14 b_37).mono ?_
     rintro e wb ⟨hdb, hcb, Ab, b, cb, fpb, rfl, howb, hfrb, hlb⟩
     subst hlb
     have hzb := hdb.size
     try simp only [World.size_alloc, World.size_drew, size_drewN] at hzb
     have HLB := Lib.hid (show List.length b ≤ 3 by omega)
     have EB : Dr B WT wb := b_5
     have hkb : (Ty.sl tKey).rd wb [.slice A1 n1 c1] K4 := rd_hide (Dr.rd EB hkT)
     have hyb : (Ty.sl .str).rd wb [.slice A5 2 c5] by_ := rd_hide (Dr.rd EB rdy)
     have hnb : (Ty.sl .str).rd wb [.slice A4' n.length c4'] n := rd_hide (Dr.rd EB rdn)
     have hbb9 := Ty.ow_rd howb
     have hbl : Ty.bulk (.sl .byte) b ≤ 1048576 := by rw [Ty.bulk_flat (fun _ => rfl)]; have := HLB.out; omega
     have hn54 := six_bulk hn6
     have hs1 : Ty.bulk (.sl .str) by_ ≤ 1048576 := by omega
     have hs2 : Ty.bulk (.sl .str) n ≤ 1048576 := by omega
     have KEYC := Lib.hid (fun W (hW : Below wb.heap.size wb W) => C_spec_SignWithKeyR W (.slice A1 n1 c1) K4 [.slice A5 2 c5] by_ [.slice A4' n.length c4'] n (.slice Ab (List.length b) cb) b 4000 (Ty.rd_below hW hkb) (Ty.rd_below hW hyb) (Ty.rd_below hW hnb) (Ty.rd_below hW hbb9) hK4b hs1 hs2 hbl hb4k)
     clear hkb hyb hnb hbb9
     refine hK.out _ _ (HC.out _ b_5) (fun hHeld => ?_)
     clear hK K
     try simp only [layz]
     refine rz1 8 (fun K hK => ?_)
     go_simp
     go_at_call 36
     refine (KEYC.out _ b_10).mono ?_
     have HOKM := Lib.hid (okMade_swk hn6 (by_ := by_) (b := b) b_37 HLB.out)
     generalize f0_SignWithKey K4 by_ n b 4000 = y at HOKM ⊢
     rintro e wd ⟨csd, rfl, hdd, hbd⟩
     obtain ⟨B0, d0, B1, d1, B2, d2, rfl⟩ := hdd.form
     obtain ⟨LO, hLO, hdd2⟩ : ∃ LO, LO = _ ∧ DataR 5 wd LO wd.heap.size _ y := ⟨_, rfl, hdd⟩
     (try simp only [World.size_alloc, World.size_drew, size_drewN] at hLO)
     have HDD := Lib.hid hdd2
     have HLO := Lib.hid hLO
     clear hdd hdd2 hLO
     have hdd : Dr B _ wd := Dr.of hbd B
     have hcd : CurT wd B := Cur.below b_14 hbd
     have hzd := hbd.size
     try simp only [World.size_alloc, World.size_drew, size_drewN] at hzd
     refine hK.out _ _ (HC.out _ b_5) (fun hHeld => ?_)
     clear hK K
     try simp only [layz]
     refine tkz3 9 10 11 ?_
     try simp only [layz]
     refine rz1 13 (fun K hK => ?_)
     have hG : Blk wd (wa.heap.size) 34 #[.slice none 0 0, .slice none 0 0, .slice none 0 0, .int .i64 0, .int .i64 0] := by
      refine Dr.blk hdd ?_ b_37
      repeat (first | (with_reducible refine Blk.drewN ?_ _) | (with_reducible refine Blk.drew ?_))
      refine Dr.blk hdb ?_ b_37
      repeat (first | (with_reducible refine Blk.drewN ?_ _) | (with_reducible refine Blk.drew ?_))
      exact Blk.new _ _ _
     have kG0 : wd.cell? ⟨wa.heap.size, 0, none⟩ = some (.slice none 0 0) := hG.cell 0
     have fG0 := hG.frozen 0
     have kG1 : wd.cell? ⟨wa.heap.size, 1, none⟩ = some (.slice none 0 0) := hG.cell 1
     have fG1 := hG.frozen 1
     have kG2 : wd.cell? ⟨wa.heap.size, 2, none⟩ = some (.slice none 0 0) := hG.cell 2
     have fG2 := hG.frozen 2
     have kG3 : wd.cell? ⟨wa.heap.size, 3, none⟩ = some (.int .i64 0) := hG.cell 3
     have fG3 := hG.frozen 3
     have kG4 : wd.cell? ⟨wa.heap.size, 4, none⟩ = some (.int .i64 0) := hG.cell 4
     have fG4 := hG.frozen 4
     have zG := hG.lt
     go_simp
     refine hK.out _ _ (HC.out _ b_5) (fun hHeld => ?_)
     clear hK K
     try simp only [layz]
     refine tkz 14 ?_
     try simp only [layz]
     refine wpAnyH_done b_35 ?_ _
     refine NoPanic.normal ?_
     go_wp2_with fail
     go_meet
     refine ⟨_, B0, d0, B1, d1, B2, d2, _, LO, wd.heap.size, _, rfl, rfl, ?_, ?_, ?_, ?_, ?_, HOKM.out.1, HOKM.out.2, ?_, ?_⟩
     ·exact Blk.set_ (Blk.set_ (Blk.set_ (Blk.set_ (Blk.set_ hG 0 _) 1 _) 2 _) 3 _) 4 _
     ·have hLO2 := HLO.out; repeat' (first | (with_reducible exact HDD.out) | (with_reducible refine DataR.set ?_ (.inl b_33) _) | (with_reducible refine DataR.set ?_ (.inr b_33) _) | (with_reducible refine DataR.alloc ?_ _) | (with_reducible refine DataR.drewN ?_ _) | (with_reducible refine DataR.drew ?_))
     ·have hLO2 := HLO.out; (try simp only [szz]); omega
     ·(try simp only [szz]); omega
     ·have hLO2 := HLO.out; omega
     ·exact b_14
     ·exact b_5
   ·go_simp
    refine hK.out _ _ (HC.out _ b_5) (fun hHeld => ?_)
    clear hK K
    try simp only [layz]
    refine rz1 6 (fun K hK => ?_)
    go_simp
    go_at_call 95
    refine (C_spec_l1Below _ B 4 b_14 b_36 b_36).mono ?_
    rintro e wa ⟨hda, hca, xa, rfl, hxa, hya⟩
    obtain ⟨ka, rfl⟩ : ∃ k : Nat, xa = k := ⟨xa.toNat, by omega⟩
    have hza := hda.size
    try simp only [World.size_alloc, World.size_drew, size_drewN] at hza
    refine hK.out _ _ (HC.out _ b_5) (fun hHeld => ?_)
    clear hK K
    try simp only [layz]
    refine rz1 7 (fun K hK => ?_)
    go_simp
    go_at_call 94
    refine (C_spec_l1Bytes _ B ka b_14 b_37).mono ?_
    rintro e wb ⟨hdb, hcb, Ab, b, cb, fpb, rfl, howb, hfrb, hlb⟩
    subst hlb
    have hzb := hdb.size
    try simp only [World.size_alloc, World.size_drew, size_drewN] at hzb
    have HLB := Lib.hid (show List.length b ≤ 3 by omega)
    have EB : Dr B WT wb := b_5
    have hkb : (Ty.sl tKey).rd wb [.slice A1 n1 c1] K4 := rd_hide (Dr.rd EB hkT)
    have hyb : (Ty.sl .str).rd wb [.slice A5 2 c5] by_ := rd_hide (Dr.rd EB rdy)
    have hnb : (Ty.sl .str).rd wb [.slice A4' n.length c4'] n := rd_hide (Dr.rd EB rdn)
    have hbb9 := Ty.ow_rd howb
    have hbl : Ty.bulk (.sl .byte) b ≤ 1048576 := by rw [Ty.bulk_flat (fun _ => rfl)]; have := HLB.out; omega
    have hn54 := six_bulk hn6
    have hs1 : Ty.bulk (.sl .str) by_ ≤ 1048576 := by omega
    have hs2 : Ty.bulk (.sl .str) n ≤ 1048576 := by omega
    have KEYC := Lib.hid (fun W (hW : Below wb.heap.size wb W) => C_spec_SignWithKeyR W (.slice A1 n1 c1) K4 [.slice A5 2 c5] by_ [.slice A4' n.length c4'] n (.slice Ab (List.length b) cb) b 4000 (Ty.rd_below hW hkb) (Ty.rd_below hW hyb) (Ty.rd_below hW hnb) (Ty.rd_below hW hbb9) hK4b hs1 hs2 hbl hb4k)
    clear hkb hyb hnb hbb9
    refine hK.out _ _ (HC.out _ b_5) (fun hHeld => ?_)
    clear hK K
    try simp only [layz]
    refine rz1 8 (fun K hK => ?_)
    go_simp
    go_at_call 36
    refine (KEYC.out _ b_10).mono ?_
    have HOKM := Lib.hid (okMade_swk hn6 (by_ := by_) (b := b) b_37 HLB.out)
    generalize f0_SignWithKey K4 by_ n b 4000 = y at HOKM ⊢
    rintro e wd ⟨csd, rfl, hdd, hbd⟩
    obtain ⟨B0, d0, B1, d1, B2, d2, rfl⟩ := hdd.form
    obtain ⟨LO, hLO, hdd2⟩ : ∃ LO, LO = _ ∧ DataR 5 wd LO wd.heap.size _ y := ⟨_, rfl, hdd⟩
    (try simp only [World.size_alloc, World.size_drew, size_drewN] at hLO)
    have HDD := Lib.hid hdd2
    have HLO := Lib.hid hLO
    clear hdd hdd2 hLO
    have hdd : Dr B _ wd := Dr.of hbd B
    have hcd : CurT wd B := Cur.below b_14 hbd
    have hzd := hbd.size
    try simp only [World.size_alloc, World.size_drew, size_drewN] at hzd
    refine hK.out _ _ (HC.out _ b_5) (fun hHeld => ?_)
    clear hK K
    try simp only [layz]
    refine tkz3 9 10 11 ?_
    try simp only [layz]
    refine rz1 13 (fun K hK => ?_)
    have hG : Blk wd (WT.heap.size) 34 #[.slice none 0 0, .slice none 0 0, .slice none 0 0, .int .i64 0, .int .i64 0] := by
     refine Dr.blk hdd ?_ b_37
     repeat (first | (with_reducible refine Blk.drewN ?_ _) | (with_reducible refine Blk.drew ?_))
     refine Dr.blk hdb ?_ b_37
     repeat (first | (with_reducible refine Blk.drewN ?_ _) | (with_reducible refine Blk.drew ?_))
     refine Dr.blk hda ?_ b_37
     repeat (first | (with_reducible refine Blk.drewN ?_ _) | (with_reducible refine Blk.drew ?_))
     exact Blk.new _ _ _
    have kG0 : wd.cell? ⟨WT.heap.size, 0, none⟩ = some (.slice none 0 0) := hG.cell 0
    have fG0 := hG.frozen 0
    have kG1 : wd.cell? ⟨WT.heap.size, 1, none⟩ = some (.slice none 0 0) := hG.cell 1
    have fG1 := hG.frozen 1
    have kG2 : wd.cell? ⟨WT.heap.size, 2, none⟩ = some (.slice none 0 0) := hG.cell 2
    have fG2 := hG.frozen 2
    have kG3 : wd.cell? ⟨WT.heap.size, 3, none⟩ = some (.int .i64 0) := hG.cell 3
    have fG3 := hG.frozen 3
    have kG4 : wd.cell? ⟨WT.heap.size, 4, none⟩ = some (.int .i64 0) := hG.cell 4
    have fG4 := hG.frozen 4
    have zG := hG.lt
    go_simp
    refine hK.out _ _ (HC.out _ b_5) (fun hHeld => ?_)
    clear hK K
    try simp only [layz]
    refine tkz 14 ?_
    try simp only [layz]
    refine wpAnyH_done b_35 ?_ _
    refine NoPanic.normal ?_
    go_wp2_with fail
    go_meet
    refine ⟨_, B0, d0, B1, d1, B2, d2, _, LO, wd.heap.size, _, rfl, rfl, ?_, ?_, ?_, ?_, ?_, HOKM.out.1, HOKM.out.2, ?_, ?_⟩
    ·exact Blk.set_ (Blk.set_ (Blk.set_ (Blk.set_ (Blk.set_ hG 0 _) 1 _) 2 _) 3 _) 4 _
    ·have hLO2 := HLO.out; repeat' (first | (with_reducible exact HDD.out) | (with_reducible refine DataR.set ?_ (.inl b_33) _) | (with_reducible refine DataR.set ?_ (.inr b_33) _) | (with_reducible refine DataR.alloc ?_ _) | (with_reducible refine DataR.drewN ?_ _) | (with_reducible refine DataR.drew ?_))
    ·have hLO2 := HLO.out; (try simp only [szz]); omega
    ·(try simp only [szz]); omega
    ·have hLO2 := HLO.out; omega
    ·exact b_14
    ·exact b_5
  obtain ⟨w9, hwc⟩ : ∃ w9, w9 = wc := ⟨_, rfl⟩
  subst hwc
  obtain ⟨g, B0, d0, B1, d1, B2, d2, y, lo, hi, yes, rfl, rfl, hG9, hD9, hg9, hgT, hlT, hok9, hbk9, hc9, E9⟩ := hcut
  have hR9 := Dr.blk E9 hRT b_37
  have hBlo : B < lo := by omega
  have hwg : w.heap.size + 1 < g := by omega
  have hBg : B < g := by omega
  have hwlo : w.heap.size + 1 < lo := by omega
  have E9w := ET.trans E9
  clear HC hkT rdn rdy hGT hNT hYT hcT zG zN hRT
  go_wp2_with fail
  refine (C_spec_l1Once _ B 8 b_14 b_36 b_36).mono ?_
  rintro e w10 ⟨hd10, hc10, more, rfl⟩
  have F10 : Dr B w9 w10 := b_5
  have z10 := F10.size
  have E10 := E9w.trans F10
  have hG10 : Blk w10 g 34 _ := Dr.blk F10 hG9 b_37
  have hD10 := hD9.dr F10 hBlo
  have hR10 := Dr.blk F10 hR9 b_37
  clear hd10 hG9 hD9 hR9 hc9 E9 F10
  have zg10 := hG10.lt
  obtain ⟨jG0, jG1, jG2, jG3, jG4, -, -, -, -, -, -⟩ := bk5 hG10
  cases more with
  | false =>
   obtain ⟨fp, how, hfr⟩ := hD10.ow
   obtain ⟨kR0, kR1, kR2, kR3, kR4, fR0, fR1, fR2, fR3, fR4, -⟩ := bk5 hR10
   have zRR := hR10.lt
   have hO9 := (Blk.set_ (Blk.set_ (Blk.set_ (Blk.set_ (Blk.set_ hR10 0 (.slice B0 (List.length y.1) d0)) 1 (.slice B1 (List.length y.2.1) d1)) 2 (.slice B2 (List.length y.2.2.1) d2)) 3 (.int .i64 y.2.2.2.1)) 4 (.int .i64 y.2.2.2.2))
   have D9 := (Dr.set (Dr.set (Dr.set (Dr.set (Dr.set E10 (p := ⟨w.heap.size + 1, 0, none⟩) (.inr b_34) (.slice B0 (List.length y.1) d0)) (p := ⟨w.heap.size + 1, 1, none⟩) (.inr b_34) (.slice B1 (List.length y.2.1) d1)) (p := ⟨w.heap.size + 1, 2, none⟩) (.inr b_34) (.slice B2 (List.length y.2.2.1) d2)) (p := ⟨w.heap.size + 1, 3, none⟩) (.inr b_34) (.int .i64 y.2.2.2.1)) (p := ⟨w.heap.size + 1, 4, none⟩) (.inr b_34) (.int .i64 y.2.2.2.2))
   have C9 := (Cur.far (Cur.far (Cur.far (Cur.far (Cur.far hc10 (p := ⟨w.heap.size + 1, 0, none⟩) b_34 (.slice B0 (List.length y.1) d0)) (p := ⟨w.heap.size + 1, 1, none⟩) b_34 (.slice B1 (List.length y.2.1) d1)) (p := ⟨w.heap.size + 1, 2, none⟩) b_34 (.slice B2 (List.length y.2.2.1) d2)) (p := ⟨w.heap.size + 1, 3, none⟩) b_34 (.int .i64 y.2.2.2.1)) (p := ⟨w.heap.size + 1, 4, none⟩) b_34 (.int .i64 y.2.2.2.2))
   have hoz := (owSet (owSet (owSet (owSet (owSet how hfr (p := ⟨w.heap.size + 1, 0, none⟩) b_34 (.slice B0 (List.length y.1) d0)) hfr (p := ⟨w.heap.size + 1, 1, none⟩) b_34 (.slice B1 (List.length y.2.1) d1)) hfr (p := ⟨w.heap.size + 1, 2, none⟩) b_34 (.slice B2 (List.length y.2.2.1) d2)) hfr (p := ⟨w.heap.size + 1, 3, none⟩) b_34 (.int .i64 y.2.2.2.1)) hfr (p := ⟨w.heap.size + 1, 4, none⟩) b_34 (.int .i64 y.2.2.2.2))
   have z9 : w10.heap.size ≤ (((((w10.setCell ⟨w.heap.size + 1, 0, none⟩ (.slice B0 (List.length y.1) d0)).setCell ⟨w.heap.size + 1, 1, none⟩ (.slice B1 (List.length y.2.1) d1)).setCell ⟨w.heap.size + 1, 2, none⟩ (.slice B2 (List.length y.2.2.1) d2)).setCell ⟨w.heap.size + 1, 3, none⟩ (.int .i64 y.2.2.2.1)).setCell ⟨w.heap.size + 1, 4, none⟩ (.int .i64 y.2.2.2.2)).heap.size := by simp only [World.size_setCell]; exact Nat.le_refl _
   go_wp2_with fail
   generalize (((((w10.setCell ⟨w.heap.size + 1, 0, none⟩ (.slice B0 (List.length y.1) d0)).setCell ⟨w.heap.size + 1, 1, none⟩ (.slice B1 (List.length y.2.1) d1)).setCell ⟨w.heap.size + 1, 2, none⟩ (.slice B2 (List.length y.2.2.1) d2)).setCell ⟨w.heap.size + 1, 3, none⟩ (.int .i64 y.2.2.2.1)).setCell ⟨w.heap.size + 1, 4, none⟩ (.int .i64 y.2.2.2.2)) = wz at hO9 D9 C9 hoz z9 ⊢
   obtain ⟨jz0, jz1, jz2, jz3, jz4, -, -, -, -, -, -⟩ := bk5 hO9
   refine bodyPost_ret (v := .agg #[.slice B0 (List.length y.1) d0, .slice B1 (List.length y.2.1) d1, .slice B2 (List.length y.2.2.1) d2, .int .i64 y.2.2.2.1, .int .i64 y.2.2.2.2]) (by simp [results, Tryz.results91, go_sem, jz0, jz1, jz2, jz3, jz4]) rfl ?_
   exact ⟨D9, C9, _, y, rfl, RdI.of_ow hoz (fun b hb => ⟨by have := (hfr.2 b hb).1; omega, Nat.lt_of_lt_of_le (Ty.ow_lt how b hb) z9⟩) (Nat.le_refl _), hok9⟩
  | true =>
   obtain ⟨u0, u1, u2, f0, f2, m1, m2, hcs, h0, hf0, hrow, hrb, h2, hf2, hbd, hb3, hb4⟩ := hD10
   simp only [List.cons.injEq, and_true] at hcs
   obtain ⟨rfl, rfl, rfl⟩ := hcs
   have hcl := content_lenB hbk9
   have HROW := Lib.hid (GRow.ofRowEx (ex := [g]) rfl hrow (fun q hq hm => by have := (hrow.block q hq).1; have := hrb q hq; simp at hm; omega))
   have hrow' : ∀ q, (Value.slice B1 (List.length y.2.1) d1).ownBlock = some q → m1 ≤ q ∧ q < m2 := fun q hq => ⟨(hrow.block q hq).1, hrb q hq⟩
   clear hrow hrb
   have HL := Lib.hid (show Row flatB (w10.alloc (.cells #[.int .u8 1] 5)) w10.heap.size 5 (.slice (some ⟨w10.heap.size, 0, none⟩) 1 1) [1] from Row.lit1 flatB w10 5 1 trivial (Nat.le_refl _))
   set_option maxRecDepth 100000 in go_wp2_with (at_builtin; go_loud (refine wpList_append_grow (e := .byte) rfl _ _ 22 rfl m1 [g] 5 info_Byte rfl Tryz.underlying22 _ _ y.2.1 [1] rfl rfl (HROW.out.alloc _) (ASrc.flat rfl (HL.out.rd b_32)) ?_ ?_ ?_ ?_ ?_))
   case refine_1 => intro q hq; simp at hq; subst hq; rw [World.size_alloc]; omega
   case refine_2 => simp only [List.length_singleton]; omega
   case refine_3 => simp only [List.length_singleton]; unfold maxLen; omega
   case refine_4 => simp only [World.size_alloc]; omega
   intro v' w' hr' hg'
   have hok9' := okMade_more hok9 hbk9
   have hl1 : (y.2.1 ++ [1]).length ≤ 201 := by rw [List.length_append, List.length_singleton]; omega
   generalize y.2.1 ++ [1] = b9 at hr' hok9' hl1
   obtain ⟨A9, c9, rfl⟩ := hr'.form
   have zg := hg'.size
   simp only [World.size_alloc] at zg
   have hG11 := (hG10.alloc _).grown hg' (fun e => by have := hrow' g e.symm; omega)
   have hR11 := (hR10.alloc _).grown hg' (fun e => by have := hrow' _ e.symm; omega)
   have h0' := ((RdI.of_owF h0 hf0 b_37).alloc _).grown hg' (fun q hq => .inr (hrow' q hq).1)
   have h2' := ((RdI.of_owF h2 hf2 b_37).alloc _).grown hg' (fun q hq => .inl (hrow' q hq).2)
   have E11 := Dr.grown (E10.alloc _) hg' (fun q hq => by have := hrow' q hq; omega)
   have C11 := Cur.grown (hc10.alloc _) hg' (fun q hq => by have := hrow' q hq; omega)
   clear hg' HL HROW hG10 hR10 hc10 E10 jG0 jG1 jG2 jG3 jG4 h0 h2
   obtain ⟨jS0, jS1, jS2, jS3, jS4, -, fS1, -, -, -, -⟩ := bk5 hG11
   obtain ⟨kR0, kR1, kR2, kR3, kR4, fR0, fR1, fR2, fR3, fR4, -⟩ := bk5 hR11
   have zRR := hR11.lt
   have zGG := hG11.lt
   have hne : w.heap.size + 1 ≠ g := by omega
   have hne2 : g ≠ w.heap.size + 1 := by omega
   have hR12 := hR11.far (p := ⟨g, 1, none⟩) b_34 (.slice A9 (List.length b9) c9)
   have E12 := Dr.set E11 (p := ⟨g, 1, none⟩) (.inr b_34) (.slice A9 (List.length b9) c9)
   have C12 := Cur.far C11 (p := ⟨g, 1, none⟩) b_34 (.slice A9 (List.length b9) c9)
   have g0 := h0'.set (p := ⟨g, 1, none⟩) b_34 (.slice A9 (List.length b9) c9)
   have g2 := h2'.set (p := ⟨g, 1, none⟩) b_34 (.slice A9 (List.length b9) c9)
   have g1 := (GRow.set hr' (p := ⟨g, 1, none⟩) (.inr b_38) (.slice A9 (List.length b9) c9)).rdI
   have hO9 := (Blk.set_ (Blk.set_ (Blk.set_ (Blk.set_ (Blk.set_ hR12 0 (.slice B0 (List.length y.1) d0)) 1 (.slice A9 (List.length b9) c9)) 2 (.slice B2 (List.length y.2.2.1) d2)) 3 (.int .i64 y.2.2.2.1)) 4 (.int .i64 y.2.2.2.2))
   have D9 := (Dr.set (Dr.set (Dr.set (Dr.set (Dr.set E12 (p := ⟨w.heap.size + 1, 0, none⟩) (.inr b_34) (.slice B0 (List.length y.1) d0)) (p := ⟨w.heap.size + 1, 1, none⟩) (.inr b_34) (.slice A9 (List.length b9) c9)) (p := ⟨w.heap.size + 1, 2, none⟩) (.inr b_34) (.slice B2 (List.length y.2.2.1) d2)) (p := ⟨w.heap.size + 1, 3, none⟩) (.inr b_34) (.int .i64 y.2.2.2.1)) (p := ⟨w.heap.size + 1, 4, none⟩) (.inr b_34) (.int .i64 y.2.2.2.2))
   have C9 := (Cur.far (Cur.far (Cur.far (Cur.far (Cur.far C12 (p := ⟨w.heap.size + 1, 0, none⟩) b_34 (.slice B0 (List.length y.1) d0)) (p := ⟨w.heap.size + 1, 1, none⟩) b_34 (.slice A9 (List.length b9) c9)) (p := ⟨w.heap.size + 1, 2, none⟩) b_34 (.slice B2 (List.length y.2.2.1) d2)) (p := ⟨w.heap.size + 1, 3, none⟩) b_34 (.int .i64 y.2.2.2.1)) (p := ⟨w.heap.size + 1, 4, none⟩) b_34 (.int .i64 y.2.2.2.2))
   have q0 := (RdI.set (RdI.set (RdI.set (RdI.set (RdI.set g0 (p := ⟨w.heap.size + 1, 0, none⟩) (.inl b_34) (.slice B0 (List.length y.1) d0)) (p := ⟨w.heap.size + 1, 1, none⟩) (.inl b_34) (.slice A9 (List.length b9) c9)) (p := ⟨w.heap.size + 1, 2, none⟩) (.inl b_34) (.slice B2 (List.length y.2.2.1) d2)) (p := ⟨w.heap.size + 1, 3, none⟩) (.inl b_34) (.int .i64 y.2.2.2.1)) (p := ⟨w.heap.size + 1, 4, none⟩) (.inl b_34) (.int .i64 y.2.2.2.2))
   have q1 := (RdI.set (RdI.set (RdI.set (RdI.set (RdI.set g1 (p := ⟨w.heap.size + 1, 0, none⟩) (.inl b_34) (.slice B0 (List.length y.1) d0)) (p := ⟨w.heap.size + 1, 1, none⟩) (.inl b_34) (.slice A9 (List.length b9) c9)) (p := ⟨w.heap.size + 1, 2, none⟩) (.inl b_34) (.slice B2 (List.length y.2.2.1) d2)) (p := ⟨w.heap.size + 1, 3, none⟩) (.inl b_34) (.int .i64 y.2.2.2.1)) (p := ⟨w.heap.size + 1, 4, none⟩) (.inl b_34) (.int .i64 y.2.2.2.2))
   have q2 := (RdI.set (RdI.set (RdI.set (RdI.set (RdI.set g2 (p := ⟨w.heap.size + 1, 0, none⟩) (.inl b_34) (.slice B0 (List.length y.1) d0)) (p := ⟨w.heap.size + 1, 1, none⟩) (.inl b_34) (.slice A9 (List.length b9) c9)) (p := ⟨w.heap.size + 1, 2, none⟩) (.inl b_34) (.slice B2 (List.length y.2.2.1) d2)) (p := ⟨w.heap.size + 1, 3, none⟩) (.inl b_34) (.int .i64 y.2.2.2.1)) (p := ⟨w.heap.size + 1, 4, none⟩) (.inl b_34) (.int .i64 y.2.2.2.2))
   clear g0 g1 g2 hR12 E12 C12 hr' h0' h2' hG11 hR11 E11 C11
   have z9 : w'.heap.size ≤ ((((((w'.setCell ⟨g, 1, none⟩ (.slice A9 (List.length b9) c9)).setCell ⟨w.heap.size + 1, 0, none⟩ (.slice B0 (List.length y.1) d0)).setCell ⟨w.heap.size + 1, 1, none⟩ (.slice A9 (List.length b9) c9)).setCell ⟨w.heap.size + 1, 2, none⟩ (.slice B2 (List.length y.2.2.1) d2)).setCell ⟨w.heap.size + 1, 3, none⟩ (.int .i64 y.2.2.2.1)).setCell ⟨w.heap.size + 1, 4, none⟩ (.int .i64 y.2.2.2.2)).heap.size := by simp only [World.size_setCell]; exact Nat.le_refl _
   have z8 : (w'.setCell ⟨g, 1, none⟩ (.slice A9 (List.length b9) c9)).heap.size ≤ w'.heap.size := by simp only [World.size_setCell]; exact Nat.le_refl _
   go_wp2_with fail
   generalize ((((((w'.setCell ⟨g, 1, none⟩ (.slice A9 (List.length b9) c9)).setCell ⟨w.heap.size + 1, 0, none⟩ (.slice B0 (List.length y.1) d0)).setCell ⟨w.heap.size + 1, 1, none⟩ (.slice A9 (List.length b9) c9)).setCell ⟨w.heap.size + 1, 2, none⟩ (.slice B2 (List.length y.2.2.1) d2)).setCell ⟨w.heap.size + 1, 3, none⟩ (.int .i64 y.2.2.2.1)).setCell ⟨w.heap.size + 1, 4, none⟩ (.int .i64 y.2.2.2.2)) = wz at hO9 D9 C9 q0 q1 q2 z9 ⊢
   obtain ⟨jz0, jz1, jz2, jz3, jz4, -, -, -, -, -, -⟩ := bk5 hO9
   refine bodyPost_ret (v := .agg #[.slice B0 (List.length y.1) d0, .slice A9 (List.length b9) c9, .slice B2 (List.length y.2.2.1) d2, .int .i64 y.2.2.2.1, .int .i64 y.2.2.2.2]) (by simp [results, Tryz.results91, go_sem, jz0, jz1, jz2, jz3, jz4]) rfl ?_
   refine ⟨D9, C9, _, (y.1, b9, y.2.2), rfl, ?_, hok9'⟩
   have mm : wz.heap.size ≤ wz.heap.size := Nat.le_refl _
   exact RdI.pr (q0.mono b_37 b_37 mm) (RdI.pr (q1.mono b_37 b_37 mm) (RdI.pr (q2.mono b_37 b_37 mm) (RdI.pr (RdI.int hb3 mm) (RdI.int hb4 mm))))
end Go.Proofs.YtldgbnlcnlfmeaaGreat
