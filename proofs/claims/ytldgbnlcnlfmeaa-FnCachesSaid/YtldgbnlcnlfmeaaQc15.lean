/- Texts of this claim, merged by a program: Dst. -/
import Derived.Test.YtldgbnlcnlfmeaaQcP
import Derived.Test.YtldgbnlcnlfmeaaQc14
import Derived.Test.YtldgbnlcnlfmeaaQc3
import Derived.Test.YtldgbnlcnlfmeaaQc11
import Derived.Deep.RegionHeld3
import Derived.Deep.DeepCutAuto
namespace Go.Proofs.Ytldgbnlcnlfmeaa
open Go.RowKit
set_option linter.unusedVariables false
set_option linter.unusedSimpArgs false
def okSt (N : Nat) (k : Ty.D tContentStore) : Prop := Ty.bulk (.sl tCacheEntry) k.2 ≤ N ∧ (-9223372036854775808 ≤ k.1 ∧ k.1 ≤ 9223372036854775807)
theorem okSt.bulk {N : Nat} {k : Ty.D tContentStore} (h : okSt N k) : Ty.bulk tContentStore k ≤ N := by show 0 + Ty.bulk (.sl tCacheEntry) k.2 ≤ N; have := h.1; omega
def DrStore (w : World) (N : Nat) (e : Ending) (w' : World) : Prop := ∃ A c, ∃ k : Ty.D tContentStore, e = .returned (.agg #[.int .i64 k.1, .slice A (List.length k.2) c]) ∧ GRow tCacheEntry w.heap.size [] w' 127 (.slice A (List.length k.2) c) k.2 ∧ okSt N k
def stAt (w : World) (B g : Nat) (c n : Int) (wx : World) : Prop := ∃ A cap, ∃ l : List (Ty.D tCacheEntry), (Ty.bulk (.sl tCacheEntry) l : Int) ≤ 300 * n ∧ Blk wx w.heap.size 55 #[.int .i64 0, .slice none 0 0] ∧ Blk wx g 55 #[.int .i64 c, .slice A (List.length l) cap] ∧ GRow tCacheEntry (g + 1) [] wx 127 (.slice A (List.length l) cap) l ∧ CurT wx B ∧ Dr B w wx
theorem name_of_data_bulk (x : Ty.D tData) : Ty.bulk (.sl .str) x.1 ≤ Ty.bulk tData x := Nat.le_add_right _ _
theorem GRow.store {w : World} {lo : Nat} {ex : List Nat} {te : TypeId} {c : Int} {A : Option Addr} {n cap : Nat} {l : List (Ty.D tCacheEntry)} (hc : -9223372036854775808 ≤ c ∧ c ≤ 9223372036854775807) (h : GRow tCacheEntry lo ex w te (.slice A n cap) l) : tContentStore.rd w [.int .i64 c, .slice A n cap] (c, l) :=
 ⟨[_], [_], rfl, ⟨rfl, hc⟩, h.rd⟩
set_option maxRecDepth 100000 in
set_option maxHeartbeats 4000000 in
theorem C_spec_l12Draw (w : World) (B : Nat) (hc : CurT w B) :
  Calls Try.prog 154 #[pB B] w (RetDT B w (DrStore w 2400)) := by
 have hB := hc.lt
 go_enter Try.func154, Try.ntmps154
 go_wp2_with fail
 refine Calls.mono (C_spec_l1Below _ B 5 b_9 b_33 b_33) ?_
 rintro e w1 ⟨hd1, hc1, n, rfl, hn0, hn1⟩
 have D1 : Dr B w w1 := b_3
 have z1 := hd1.size
 simp only [World.size_alloc] at z1
 have hO1 : Blk w1 w.heap.size 55 #[.int .i64 0, .slice none 0 0] := Dr.blk hd1 (Blk.new w _ _) b_34
 clear hd1
 go_wp2_with fail
 refine Calls.mono (C_spec_NewContentStoreG _ n ⟨by omega, by omega⟩) ?_
 rintro e w2 ⟨c, rfl, hcb, hb2⟩
 have z2 := hb2.size
 have D2 : Dr B w w2 := D1.then_ hb2
 have hc2 : CurT w2 B := Cur.below hc1 hb2
 have hO2 := hO1.below hb2 hO1.lt
 clear hb2 D1 hc1 hO1
 obtain ⟨w3, hw3⟩ : ∃ V, V = w2.alloc (.cells #[.int .i64 c, .slice none 0 0] 55) := ⟨_, rfl⟩
 have E3 : Dr B w2 w3 := by rw [hw3]; exact new_dr B w2 _
 have hc3 : CurT w3 B := by rw [hw3]; exact hc2.alloc _
 have hK3 : Blk w3 w2.heap.size 55 #[.int .i64 c, .slice none 0 0] := by rw [hw3]; exact Blk.new _ _ _
 have hO3 := Dr.blk E3 hO2 b_34
 have D3 := D2.trans E3
 have z3 := hK3.lt
 clear E3 hO2 D2 hc2
 go_wp2_with fail
 rw [← hw3]
 clear hw3
 refine Calls.mono (C_spec_l1Below _ B 8 b_9 b_33 b_33) ?_
 rintro e w4 ⟨hd4, hc4, i, rfl, hi0, hi1⟩
 have E4 : Dr B w3 w4 := b_3
 have hS4 : stAt w B w2.heap.size c (7 - i) w4 := ⟨none, 0, [], (show (0 : Int) ≤ _ by omega), Dr.blk E4 hO3 b_34, Dr.blk E4 hK3 b_34, GRow.nil _ _ _ _ _, hc4, D3.trans E4⟩
 clear hd4 E4 hK3 hO3 D3 hc3 hc4
 go_wp2
 go_loopw [4] (fun v wr => ∃ m : Int, v = .int .i64 m ∧ 0 ≤ m ∧ m ≤ 7 ∧ stAt w B w2.heap.size c (7 - m) wr) (fun v _ => (intOf v).toNat)
 case atStart => exact ⟨i, rfl, hi0, by omega, hS4⟩
 case round =>
  obtain ⟨m, rfl, hm0, hm7, A, cap, l, hbl, hOr, hKr, hG, hcr, hdr⟩ := hrel
  have zr := hKr.lt
  have HG := Lib.hid hG
  have hDr := Lib.hid hdr
  clear hG hS4 hdr
  obtain ⟨k0, k1, -, -⟩ := blk2 hKr
  by_cases hlt : 0 < m
  ·have hwm : IntKind.i64.wrap (m - 1) = m - 1 := IntWalk.i64_in _ b_34
   go_wp2_with fail
   clear k0 k1
   refine Calls.mono (C_spec_l8Draw _ B b_9) ?_
   rintro e w5 ⟨hd5, hc5, csx, x, rfl, QX, hok⟩
   obtain ⟨X0, Xa, X1, Xb, X2, Xc, rfl, -⟩ := rd_Data QX.rd
   have E5 : Dr B wr w5 := b_3
   have z5 := E5.size
   have hO5 := Dr.blk E5 hOr b_34
   have hK5 := Dr.blk E5 hKr b_34
   have HG5 := Lib.hid (HG.out.dr E5 b_34)
   have hbx := thing_bulk hok
   have D5 := Lib.hid (hDr.out.trans E5)
   clear hd5 E5 HG hDr hOr hKr hok
   obtain ⟨w6, hw6⟩ : ∃ V, V = w5.alloc (.cells #[.slice X0 (List.length x.1) Xa, .slice X1 (List.length x.2.1) Xb, .slice X2 (List.length x.2.2.1) Xc, .int .i64 x.2.2.2.1, .int .i64 x.2.2.2.2] 46) := ⟨_, rfl⟩
   have E6 : Dr B w5 w6 := by rw [hw6]; exact new_dr B w5 _
   have hc6 : CurT w6 B := by rw [hw6]; exact hc5.alloc _
   have hX6 : Blk w6 w5.heap.size 46 #[.slice X0 (List.length x.1) Xa, .slice X1 (List.length x.2.1) Xb, .slice X2 (List.length x.2.2.1) Xc, .int .i64 x.2.2.2.1, .int .i64 x.2.2.2.2] := by rw [hw6]; exact Blk.new _ _ _
   have hO6 := Dr.blk E6 hO5 b_34
   have hK6 := Dr.blk E6 hK5 b_34
   have HG6 := Lib.hid (HG5.out.dr E6 b_34)
   have D6 := Lib.hid (D5.out.trans E6)
   have QX6 := QX.dr E6 b_34
   have z6 := hX6.lt
   clear E6 hO5 hK5 HG5 D5 hc5 QX
   obtain ⟨k0, k1, -, -⟩ := blk2 hK6
   obtain ⟨x0, x1, x2, x3, x4, -⟩ := blk5 hX6
   have HC : Hid (∀ V, Dr B w6 V → V.cell? ⟨w5.heap.size, 0, none⟩ = some (.slice X0 (List.length x.1) Xa) ∧ V.cell? ⟨w5.heap.size, 1, none⟩ = some (.slice X1 (List.length x.2.1) Xb) ∧ V.cell? ⟨w5.heap.size, 2, none⟩ = some (.slice X2 (List.length x.2.2.1) Xc) ∧ V.cell? ⟨w5.heap.size, 3, none⟩ = some (.int .i64 x.2.2.2.1) ∧ V.cell? ⟨w5.heap.size, 4, none⟩ = some (.int .i64 x.2.2.2.2)) := fun V hV => by
    obtain ⟨a0, a1, a2, a3, a4, -⟩ := blk5 (Dr.blk hV hX6 b_34)
    exact ⟨a0, a1, a2, a3, a4⟩
   go_upto_region 6 with fail
   rw [← hw6]
   clear hw6 x0 x1 x2 x3 x4 k0 k1
   go_cut [] (fun wx => stAt w B w2.heap.size c (8 - m) wx)
   case first =>
    go_wp2_with fail
    refine wp_region_noPanic ?_
    refine wp_region_held_drew (S := (fun V => V.cell? ⟨w5.heap.size, 0, none⟩ = some (.slice X0 (List.length x.1) Xa) ∧ V.cell? ⟨w5.heap.size, 1, none⟩ = some (.slice X1 (List.length x.2.1) Xb) ∧ V.cell? ⟨w5.heap.size, 2, none⟩ = some (.slice X2 (List.length x.2.2.1) Xc) ∧ V.cell? ⟨w5.heap.size, 3, none⟩ = some (.int .i64 x.2.2.2.1) ∧ V.cell? ⟨w5.heap.size, 4, none⟩ = some (.int .i64 x.2.2.2.2))) b_31 ?_ (fun hHeld => ?_)
    ·exact HC.out _ (Dr.drew (Dr.refl _ _))
    refine tkz2 1 2 ?_
    try simp only [layz]
    refine rz2 0 3 (fun K hK => ?_) (fun K hK => ?_)
    ·obtain ⟨k0, k1, -, -⟩ := blk2 hK6.drew
     go_simp
     clear k0 k1
     refine hK.out _ _ (HC.out _ (drz (Dr.refl B w6))) (fun hHeld => ?_)
     clear hK K
     try simp only [layz]
     refine rz1 3 (fun K hK => ?_)
     go_simp
     go_at_call 69
     refine Calls.mono (C_spec_l1Below _ B 20 (cuz hc6) b_33 b_33) ?_
     rintro e w7 ⟨hd7, hc7, y, rfl, hy0, hy1⟩
     obtain ⟨E7, z7⟩ := ez w6 hd7
     have hwk : IntKind.i64.wrap (40 + y) = 40 + y := IntWalk.i64_in _ b_34
     clear hd7
     refine hK.out _ _ (HC.out _ (drz E7)) (fun hHeld => ?_)
     clear hK K
     try simp only [layz]
     refine tkz 4 ?_
     try simp only [layz]
     refine rz1 5 (fun K hK => ?_)
     go_simp
     go_at_call 28
     refine Calls.mono (C_spec_CacheDataR _ _ (c, l) _ x (40 + y) ((HG6.out.dr E7 b_34).store b_34) (QX6.dr E7 b_34).rd (by show 0 + Ty.bulk (.sl tCacheEntry) l ≤ 1048576; omega) b_34 b_34) ?_
     rintro e w8 ⟨v8, rfl, hr8, hb8⟩
     obtain ⟨E8, z8⟩ := ez w7 (Dr.of hb8 B)
     have hc8 : CurT w8 B := Cur.below (cuz hc7) hb8
     have hg8 := (show RetStG _ _ _ _ _ from RetStore.grow ⟨v8, rfl, hr8, hb8⟩)
     have hbl8 := cache_bulk (c := c) (l := l) (x := x) (now := 40 + y)
     have hcp8 := cache_cap (c := c) (l := l) (x := x) (now := 40 + y)
     obtain ⟨A8, c8, heq, hgr8, -⟩ := hg8
     rw [hcp8] at heq ⊢
     simp only [Ending.returned.injEq, Value.agg.injEq, Array.mk.injEq, List.cons.injEq, and_true, true_and] at heq
     subst heq
     generalize (f_CacheData (c, l) x (40 + y)).2 = l8 at hgr8 hbl8 hr8 ⊢
     have HG8 := Lib.hid hgr8
     clear hr8 hgr8 hcp8
     clear hb8
     refine hK.out _ _ (HC.out _ (drz (E7.trans E8))) (fun hHeld => ?_)
     clear hK K
     try simp only [layz]
     refine rz1 6 (fun K hK => ?_)
     have hK8 := Dr.blk (E7.trans E8) hK6 b_34
     have hO8 := Dr.blk (E7.trans E8) hO6 b_34
     have D8 := D6.out.trans (E7.trans E8)
     obtain ⟨k0, k1, f0, f1⟩ := blk2 hK8
     have zk := hK8.lt
     go_simp
     refine abs_world (fun w9 hw9 => ?_)
     obtain ⟨hK9, hk, hs, C, F⟩ := stored2 (v0 := .int .i64 c) (v1 := .slice A8 (List.length l8) c8) hK8 hw9
     have hO9 := (hk _ b_34).trans hO8
     have G9 := Lib.hid ((HG8.out.keep hs (fun q h1 h2 h3 => hk q b_34)).mono (lo' := w2.heap.size + 1) b_34)
     have C9 := C B b_34 hc8
     have D9 := Lib.hid (F B w b_34 D8)
     have hX9 : Blk w9 w5.heap.size 46 #[.slice X0 (List.length x.1) Xa, .slice X1 (List.length x.2.1) Xb, .slice X2 (List.length x.2.2.1) Xc, .int .i64 x.2.2.2.1, .int .i64 x.2.2.2.2] := (hk _ b_34).trans (Dr.blk (E7.trans E8) hX6 b_34)
     obtain ⟨a0, a1, a2, a3, a4, -⟩ := blk5 hX9
     clear k0 k1 f0 f1 zk hw9 hk C F D8 hO8 hK8 hX9
     refine hK.out _ _ (⟨a0, a1, a2, a3, a4⟩) (fun hHeld => ?_)
     clear hK K
     try simp only [layz]
     refine wpAnyH_done b_31 ?_ _
     refine NoPanic.normal ?_
     clear a0 a1 a2 a3 a4
     go_wp2_with fail
     go_meet
     exact ⟨A8, c8, l8, by omega, hO9, hK9, G9.out, C9, D9.out⟩
    ·go_simp
     go_at_call 69
     refine Calls.mono (C_spec_l1Below _ B 20 (cuz hc6) b_33 b_33) ?_
     rintro e w7 ⟨hd7, hc7, y, rfl, hy0, hy1⟩
     obtain ⟨E7, z7⟩ := ez w6 hd7
     have hwk : IntKind.i64.wrap (40 + y) = 40 + y := IntWalk.i64_in _ b_34
     clear hd7
     refine hK.out _ _ (HC.out _ (drz E7)) (fun hHeld => ?_)
     clear hK K
     try simp only [layz]
     refine tkz 4 ?_
     try simp only [layz]
     refine rz1 0 (fun K hK => ?_)
     obtain ⟨k0, k1, -, -⟩ := blk2 (Dr.blk (drz E7) hK6 b_34)
     go_simp
     clear k0 k1
     refine hK.out _ _ (HC.out _ (drz E7)) (fun hHeld => ?_)
     clear hK K
     try simp only [layz]
     refine rz1 5 (fun K hK => ?_)
     go_simp
     go_at_call 28
     refine Calls.mono (C_spec_CacheDataR _ _ (c, l) _ x (40 + y) ((HG6.out.dr E7 b_34).store b_34) (QX6.dr E7 b_34).rd (by show 0 + Ty.bulk (.sl tCacheEntry) l ≤ 1048576; omega) b_34 b_34) ?_
     rintro e w8 ⟨v8, rfl, hr8, hb8⟩
     obtain ⟨E8, z8⟩ := ez w7 (Dr.of hb8 B)
     have hc8 : CurT w8 B := Cur.below (cuz hc7) hb8
     have hg8 := (show RetStG _ _ _ _ _ from RetStore.grow ⟨v8, rfl, hr8, hb8⟩)
     have hbl8 := cache_bulk (c := c) (l := l) (x := x) (now := 40 + y)
     have hcp8 := cache_cap (c := c) (l := l) (x := x) (now := 40 + y)
     obtain ⟨A8, c8, heq, hgr8, -⟩ := hg8
     rw [hcp8] at heq ⊢
     simp only [Ending.returned.injEq, Value.agg.injEq, Array.mk.injEq, List.cons.injEq, and_true, true_and] at heq
     subst heq
     generalize (f_CacheData (c, l) x (40 + y)).2 = l8 at hgr8 hbl8 hr8 ⊢
     have HG8 := Lib.hid hgr8
     clear hr8 hgr8 hcp8
     clear hb8
     refine hK.out _ _ (HC.out _ (drz (E7.trans E8))) (fun hHeld => ?_)
     clear hK K
     try simp only [layz]
     refine rz1 6 (fun K hK => ?_)
     have hK8 := Dr.blk (E7.trans E8) hK6 b_34
     have hO8 := Dr.blk (E7.trans E8) hO6 b_34
     have D8 := D6.out.trans (E7.trans E8)
     obtain ⟨k0, k1, f0, f1⟩ := blk2 hK8
     have zk := hK8.lt
     go_simp
     refine abs_world (fun w9 hw9 => ?_)
     obtain ⟨hK9, hk, hs, C, F⟩ := stored2 (v0 := .int .i64 c) (v1 := .slice A8 (List.length l8) c8) hK8 hw9
     have hO9 := (hk _ b_34).trans hO8
     have G9 := Lib.hid ((HG8.out.keep hs (fun q h1 h2 h3 => hk q b_34)).mono (lo' := w2.heap.size + 1) b_34)
     have C9 := C B b_34 hc8
     have D9 := Lib.hid (F B w b_34 D8)
     have hX9 : Blk w9 w5.heap.size 46 #[.slice X0 (List.length x.1) Xa, .slice X1 (List.length x.2.1) Xb, .slice X2 (List.length x.2.2.1) Xc, .int .i64 x.2.2.2.1, .int .i64 x.2.2.2.2] := (hk _ b_34).trans (Dr.blk (E7.trans E8) hX6 b_34)
     obtain ⟨a0, a1, a2, a3, a4, -⟩ := blk5 hX9
     clear k0 k1 f0 f1 zk hw9 hk C F D8 hO8 hK8 hX9
     refine hK.out _ _ (⟨a0, a1, a2, a3, a4⟩) (fun hHeld => ?_)
     clear hK K
     try simp only [layz]
     refine wpAnyH_done b_31 ?_ _
     refine NoPanic.normal ?_
     clear a0 a1 a2 a3 a4
     go_wp2_with fail
     go_meet
     exact ⟨A8, c8, l8, by omega, hO9, hK9, G9.out, C9, D9.out⟩
   obtain ⟨w7, h7⟩ : ∃ V, V = wc := ⟨_, rfl⟩
   subst h7
   clear HG6 hK6 hO6 hX6 HC D6 hc6 QX6 hbl hcr
   obtain ⟨A, cap, l, hbl, hO7, hK7, hG7, hc7, hD7⟩ := hcut
   have HG7 := Lib.hid hG7
   have D7 := Lib.hid hD7
   clear hG7 hD7
   have z7 := hK7.lt
   go_wp2_with fail
   refine Calls.mono (C_spec_l1Once _ B 3 b_9 b_33 b_33) ?_
   rintro e w8 ⟨hd8, hc8, bo, rfl⟩
   have E8 : Dr B w7 w8 := b_3
   have z8 := E8.size
   have hO8 := Dr.blk E8 hO7 b_34
   have hK8 := Dr.blk E8 hK7 b_34
   have HG8 := Lib.hid (HG7.out.dr E8 b_34)
   have D8 := Lib.hid (D7.out.trans E8)
   clear hd8 E8 HG7 D7 hO7 hK7 hc7
   cases bo with
   | false =>
    go_wp2
    go_roundw
    case rel => exact ⟨m - 1, rfl, by omega, by omega, A, cap, l, by omega, hO8, hK8, HG8.out, hc8, D8.out⟩
    case measure => simp [intOf]; omega
   | true =>
    have HC : Hid (∀ V, Dr B w8 V → V.heap.size ≥ w8.heap.size) := fun V hV => hV.size
    go_wp2_with fail
    refine wp_region_noPanic ?_
    refine wp_region_held_drew (S := (fun V => V.heap.size ≥ w8.heap.size)) b_31 ?_ (fun hHeld => ?_)
    ·exact HC.out _ (Dr.drew (Dr.refl _ _))
    refine tkz 1 ?_
    try simp only [layz]
    refine rz2 0 2 (fun K hK => ?_) (fun K hK => ?_)
    ·obtain ⟨k0, k1, -, -⟩ := blk2 hK8.drew
     go_simp
     clear k0 k1
     refine hK.out _ _ (HC.out _ (drz (Dr.refl B w8))) (fun hHeld => ?_)
     clear hK K
     try simp only [layz]
     refine rz1 2 (fun K hK => ?_)
     go_simp
     go_at_call 118
     refine Calls.mono (C_spec_l8Draw _ B (cuz hc8)) ?_
     rintro e w9 ⟨hd9, hc9, csx, x, rfl, QX, hok⟩
     obtain ⟨E9, z9⟩ := ez w8 hd9
     obtain ⟨X0, Xa, X1, Xb, X2, Xc, rfl, xg0, -⟩ := rd_Data QX.rd
     have hbx := thing_bulk hok
     have hbn := name_of_data_bulk x
     clear hok
     have hfd : ∀ W : World, (Instr.field 46 (.agg #[.slice X0 (List.length x.1) Xa, .slice X1 (List.length x.2.1) Xb, .slice X2 (List.length x.2.2.1) Xc, .int .i64 x.2.2.2.1, .int .i64 x.2.2.2.2]) 0).run Try.prog W = .ok (.agg #[.slice X0 (List.length x.1) Xa]) W := fun W => fld_name _ _ _ _ _ _ _ _ _ _ _ W
     clear hd9
     refine hK.out _ _ (HC.out _ (drz E9)) (fun hHeld => ?_)
     clear hK K
     try simp only [layz]
     refine tkz 3 ?_
     try simp only [layz]
     refine rz1 4 (fun K hK => ?_)
     go_simp
     go_at_call 31
     refine Calls.mono (C_spec_TouchG _ _ (c, l) _ x.1 60 ((HG8.out.dr E9 b_34).store b_34) xg0 (by show 0 + Ty.bulk (.sl tCacheEntry) l ≤ 1048576; omega) b_34 b_33) ?_
     rintro e w10 ⟨A8, c8, rfl, hgr8, hb10⟩
     obtain ⟨E10, z10⟩ := ez w9 (Dr.of hb10 B)
     have hc10 : CurT w10 B := Cur.below (cuz hc9) hb10
     have hbl8 : Ty.bulk (.sl tCacheEntry) (touchE x.1 60 l) = Ty.bulk (.sl tCacheEntry) l := touchE_bulk x.1 60 l
     have hgr9 : GRow tCacheEntry _ [] _ 127 (.slice A8 (List.length (touchE x.1 60 l)) c8) (touchE x.1 60 l) := hgr8
     rw [show f_Touch (c, l) x.1 60 = (c, touchE x.1 60 l) from rfl]
     dsimp only
     generalize touchE x.1 60 l = l8 at hgr9 hbl8 ⊢
     have HGt := Lib.hid hgr9
     clear hgr8 hgr9
     clear hb10
     refine hK.out _ _ (HC.out _ (drz (E9.trans E10))) (fun hHeld => ?_)
     clear hK K
     try simp only [layz]
     refine rz1 5 (fun K hK => ?_)
     have hK10 := Dr.blk (E9.trans E10) hK8 b_34
     have hO10 := Dr.blk (E9.trans E10) hO8 b_34
     have D10 := D8.out.trans (E9.trans E10)
     obtain ⟨k0, k1, f0, f1⟩ := blk2 hK10
     have zk := hK10.lt
     go_simp
     refine abs_world (fun wz hwz => ?_)
     obtain ⟨hKz, hk, hs, C, F⟩ := stored2 (v0 := .int .i64 c) (v1 := .slice A8 (List.length l8) c8) hK10 hwz
     have hOz := (hk _ b_34).trans hO10
     have Gz := Lib.hid ((HGt.out.keep hs (fun q h1 h2 h3 => hk q b_34)).mono (lo' := w2.heap.size + 1) b_34)
     have Cz := C B b_34 hc10
     have Dz := Lib.hid (F B w b_34 D10)
     have zz : w8.heap.size ≤ wz.heap.size := by have := (E9.trans E10).size; omega
     clear k0 k1 f0 f1 zk hwz hk C F D10 hO10 hK10
     refine hK.out _ _ (zz) (fun hHeld => ?_)
     clear hK K
     try simp only [layz]
     refine wpAnyH_done b_31 ?_ _
     refine NoPanic.normal ?_
     clear zz
     go_wp2
     go_roundw
     case rel => exact ⟨m - 1, rfl, by omega, by omega, A8, c8, l8, by omega, hOz, hKz, Gz.out, Cz, Dz.out⟩
     case measure => simp [intOf]; omega
    ·go_simp
     go_at_call 118
     refine Calls.mono (C_spec_l8Draw _ B (cuz hc8)) ?_
     rintro e w9 ⟨hd9, hc9, csx, x, rfl, QX, hok⟩
     obtain ⟨E9, z9⟩ := ez w8 hd9
     obtain ⟨X0, Xa, X1, Xb, X2, Xc, rfl, xg0, -⟩ := rd_Data QX.rd
     have hbx := thing_bulk hok
     have hbn := name_of_data_bulk x
     clear hok
     have hfd : ∀ W : World, (Instr.field 46 (.agg #[.slice X0 (List.length x.1) Xa, .slice X1 (List.length x.2.1) Xb, .slice X2 (List.length x.2.2.1) Xc, .int .i64 x.2.2.2.1, .int .i64 x.2.2.2.2]) 0).run Try.prog W = .ok (.agg #[.slice X0 (List.length x.1) Xa]) W := fun W => fld_name _ _ _ _ _ _ _ _ _ _ _ W
     clear hd9
     refine hK.out _ _ (HC.out _ (drz E9)) (fun hHeld => ?_)
     clear hK K
     try simp only [layz]
     refine tkz 3 ?_
     try simp only [layz]
     refine rz1 0 (fun K hK => ?_)
     obtain ⟨k0, k1, -, -⟩ := blk2 (Dr.blk (drz E9) hK8 b_34)
     go_simp
     clear k0 k1
     refine hK.out _ _ (HC.out _ (drz E9)) (fun hHeld => ?_)
     clear hK K
     try simp only [layz]
     refine rz1 4 (fun K hK => ?_)
     go_simp
     go_at_call 31
     refine Calls.mono (C_spec_TouchG _ _ (c, l) _ x.1 60 ((HG8.out.dr E9 b_34).store b_34) xg0 (by show 0 + Ty.bulk (.sl tCacheEntry) l ≤ 1048576; omega) b_34 b_33) ?_
     rintro e w10 ⟨A8, c8, rfl, hgr8, hb10⟩
     obtain ⟨E10, z10⟩ := ez w9 (Dr.of hb10 B)
     have hc10 : CurT w10 B := Cur.below (cuz hc9) hb10
     have hbl8 : Ty.bulk (.sl tCacheEntry) (touchE x.1 60 l) = Ty.bulk (.sl tCacheEntry) l := touchE_bulk x.1 60 l
     have hgr9 : GRow tCacheEntry _ [] _ 127 (.slice A8 (List.length (touchE x.1 60 l)) c8) (touchE x.1 60 l) := hgr8
     rw [show f_Touch (c, l) x.1 60 = (c, touchE x.1 60 l) from rfl]
     dsimp only
     generalize touchE x.1 60 l = l8 at hgr9 hbl8 ⊢
     have HGt := Lib.hid hgr9
     clear hgr8 hgr9
     clear hb10
     refine hK.out _ _ (HC.out _ (drz (E9.trans E10))) (fun hHeld => ?_)
     clear hK K
     try simp only [layz]
     refine rz1 5 (fun K hK => ?_)
     have hK10 := Dr.blk (E9.trans E10) hK8 b_34
     have hO10 := Dr.blk (E9.trans E10) hO8 b_34
     have D10 := D8.out.trans (E9.trans E10)
     obtain ⟨k0, k1, f0, f1⟩ := blk2 hK10
     have zk := hK10.lt
     go_simp
     refine abs_world (fun wz hwz => ?_)
     obtain ⟨hKz, hk, hs, C, F⟩ := stored2 (v0 := .int .i64 c) (v1 := .slice A8 (List.length l8) c8) hK10 hwz
     have hOz := (hk _ b_34).trans hO10
     have Gz := Lib.hid ((HGt.out.keep hs (fun q h1 h2 h3 => hk q b_34)).mono (lo' := w2.heap.size + 1) b_34)
     have Cz := C B b_34 hc10
     have Dz := Lib.hid (F B w b_34 D10)
     have zz : w8.heap.size ≤ wz.heap.size := by have := (E9.trans E10).size; omega
     clear k0 k1 f0 f1 zk hwz hk C F D10 hO10 hK10
     refine hK.out _ _ (zz) (fun hHeld => ?_)
     clear hK K
     try simp only [layz]
     refine wpAnyH_done b_31 ?_ _
     refine NoPanic.normal ?_
     clear zz
     go_wp2
     go_roundw
     case rel => exact ⟨m - 1, rfl, by omega, by omega, A8, c8, l8, by omega, hOz, hKz, Gz.out, Cz, Dz.out⟩
     case measure => simp [intOf]; omega
  ·obtain ⟨o0, o1, g0, g1⟩ := blk2 hOr
   have zo := hOr.lt
   go_wp2_with fail
   refine bodyPost_ret (v := .agg #[.int .i64 c, .slice A (List.length l) cap]) (by simp [results, Try.results154, go_sem, k0, k1, o0, o1, g0, g1, zo]) rfl ?_
   obtain ⟨wz, hwz⟩ : ∃ V, V = (wr.setCell ⟨w.heap.size, 0, none⟩ (.int .i64 c)).setCell ⟨w.heap.size, 1, none⟩ (.slice A (List.length l) cap) := ⟨_, rfl⟩
   obtain ⟨-, hk, hs, C, F⟩ := stored2 hOr hwz
   rw [← hwz]
   exact ⟨F B w (Nat.le_refl _) hDr.out, C B b_34 hcr, A, cap, (c, l), rfl, (HG.out.keep hs (fun q h1 h2 h3 => hk q b_34)).mono b_34, ⟨(show Ty.bulk (.sl tCacheEntry) l ≤ 2400 by omega), (show -9223372036854775808 ≤ c ∧ c ≤ 9223372036854775807 by omega)⟩⟩
def anyAt (w : World) (B g : Nat) (wx : World) : Prop := ∃ c : Int, ∃ A cap, ∃ l : List (Ty.D tCacheEntry), Ty.bulk (.sl tCacheEntry) l ≤ 5000 ∧ (-9223372036854775808 ≤ c ∧ c ≤ 9223372036854775807) ∧ Blk wx w.heap.size 55 #[.int .i64 0, .slice none 0 0] ∧ Blk wx g 55 #[.int .i64 c, .slice A (List.length l) cap] ∧ GRow tCacheEntry (w.heap.size + 1) [g] wx 127 (.slice A (List.length l) cap) l ∧ CurT wx B ∧ Dr B w wx
set_option maxRecDepth 100000 in
set_option maxHeartbeats 4000000 in
theorem C_spec_l12Any (w : World) (B : Nat) (hc : CurT w B) :
  Calls Try.prog 91 #[pB B] w (RetDT B w (DrStore w 5000)) := by
 have hB := hc.lt
 go_enter Try.func91, Try.ntmps91
 go_upto_region 1 with fail
 refine wp_hold b_32 (fun KK HKK => ?_)
 go_wp2_with fail
 refine Calls.mono (C_spec_l12Draw _ B b_9) ?_
 rintro e w1 ⟨hd1, hc1, A, cap, k, rfl, hG, hok⟩
 obtain ⟨c, l⟩ := k
 have D1 : Dr B w w1 := b_3
 have z1 := hd1.size
 simp only [World.size_alloc] at z1 hG
 have hO1 : Blk w1 w.heap.size 55 #[.int .i64 0, .slice none 0 0] := Dr.blk hd1 (Blk.new w _ _) b_34
 have hci : -9223372036854775808 ≤ c ∧ c ≤ 9223372036854775807 := hok.2
 have hbl : Ty.bulk (.sl tCacheEntry) l ≤ 2400 := hok.1
 have hll := Ty.bulk_len hbl
 have hG1 : GRow tCacheEntry (w.heap.size + 1) [w1.heap.size] w1 127 (.slice A (List.length l) cap) l := GRow.addEx hG (Nat.le_refl _)
 clear hd1 hok hG
 obtain ⟨w2, hw2⟩ : ∃ V, V = w1.alloc (.cells #[.int .i64 c, .slice A (List.length l) cap] 55) := ⟨_, rfl⟩
 have E2 : Dr B w1 w2 := by rw [hw2]; exact new_dr B w1 _
 have hc2 : CurT w2 B := by rw [hw2]; exact hc1.alloc _
 have hK2 : Blk w2 w1.heap.size 55 #[.int .i64 c, .slice A (List.length l) cap] := by rw [hw2]; exact Blk.new _ _ _
 have hO2 := Dr.blk E2 hO1 b_34
 have D2 := D1.trans E2
 have HG2 := Lib.hid (hG1.dr E2 b_34)
 have z2 := hK2.lt
 clear E2 hO1 D1 hc1 hG1
 go_wp2_with fail
 rw [← hw2]
 clear hw2
 refine HKK.out _ _ ?_
 apply wp_seq_k; intro _ _
 go_cut [] (fun wx => anyAt w B w1.heap.size wx)
 case first =>
  go_wp2_with fail
  refine Calls.mono (C_spec_l1Below _ B 10 b_9 b_33 b_33) ?_
  rintro e w3 ⟨hd3, hc3, t, rfl, ht0, ht1⟩
  have E3 : Dr B w2 w3 := b_3
  have z3 := E3.size
  have hO3 := Dr.blk E3 hO2 b_34
  have hK3 := Dr.blk E3 hK2 b_34
  have HG3 := Lib.hid (HG2.out.dr E3 b_34)
  have D3 := Lib.hid (D2.trans E3)
  clear hd3 E3 HG2 D2 hO2 hK2 hc2
  have zk := hK3.lt
  rcases (show t = 0 ∨ t = 1 ∨ t = 2 ∨ (t ≠ 0 ∧ t ≠ 1 ∧ t ≠ 2) by omega) with rfl | rfl | rfl | ht
  ·go_wp2_with fail
   refine Calls.mono (C_spec_l1Int _ B _ [-1, 0, 8, 9] b_9 b_8 b_33 b_33) ?_
   rintro e w4 ⟨hd4, hc4, s, hs, rfl⟩
   have E4 : Dr B w3 w4 := b_3
   have hO4 := Dr.blk E4 hO3 b_34
   have hK4 := Dr.blk E4 hK3 b_34
   have HG4 := Lib.hid (HG3.out.dr E4 b_34)
   have D4 := Lib.hid (D3.out.trans E4)
   have zk4 := hK4.lt
   have hsb : -9223372036854775808 ≤ s ∧ s ≤ 9223372036854775807 := by have := mem_word hs b_33; omega
   clear hs hd4 E4
   obtain ⟨k0, k1, f0, f1⟩ := blk2 hK4
   go_wp2_with fail
   clear k0 k1 f0 f1
   go_meet
   exact ⟨s, A, cap, l, by omega, hsb, hO4.far (p := ⟨w1.heap.size, 0, none⟩) b_30 _, hK4.set_ 0 _, HG4.out.set (p := ⟨w1.heap.size, 0, none⟩) (.inr (by simp)) _, Cur.far hc4 (p := ⟨w1.heap.size, 0, none⟩) b_30 _, Dr.set D4.out (p := ⟨w1.heap.size, 0, none⟩) (.inr b_30) _⟩
  ·go_wp2_with fail
   refine wp_region_noPanic ?_
   refine wp_region_held_drew (S := (fun _ => True)) b_31 ?_ (fun hHeld => ?_)
   ·trivial
   refine tkz2 0 2 ?_
   try simp only [layz]
   refine rz2 1 3 (fun K hK => ?_) (fun K hK => ?_)
   ·obtain ⟨k0, k1, -, -⟩ := blk2 hK3.drew
    go_simp
    clear k0 k1
    refine hK.out _ _ ?_ (fun hHeld => ?_)
    ·(try dsimp only)
     try trivial
    clear hK K
    try simp only [layz]
    refine rz1 3 (fun K hK => ?_)
    go_simp
    go_at_call 92
    refine Calls.mono (C_spec_l8Any _ B (cuz hc3)) ?_
    rintro e w4 ⟨hd4, hc4, csx, x, rfl, QX, hok⟩
    obtain ⟨E4, z4⟩ := ez w3 hd4
    (try simp only [szz] at QX)
    obtain ⟨X0, Xa, X1, Xb, X2, Xc, rfl, -⟩ := rd_Data QX.rd
    have hbx := thing_bulk hok
    clear hok
    clear hd4
    refine hK.out _ _ ?_ (fun hHeld => ?_)
    ·(try dsimp only)
     try trivial
    clear hK K
    try simp only [layz]
    refine tkz 4 ?_
    try simp only [layz]
    refine rz1 5 (fun K hK => ?_)
    go_simp
    refine abs_world (fun w5 hw5 => ?_)
    obtain ⟨E5, hc5, z5⟩ := nz hw5 hc4
    have hL5 : Blk w5 w4.heap.size 127 #[.slice X0 (List.length x.1) Xa, .slice X1 (List.length x.2.1) Xb, .slice X2 (List.length x.2.2.1) Xc, .int .i64 x.2.2.2.1, .int .i64 x.2.2.2.2, .int .i64 0] := by rw [hw5]; exact (by first | exact Blk.new _ _ _ | exact (Blk.new _ _ _).drew)
    have QE5 : RdI tCacheEntry w3.heap.size w4.heap.size w5 [.slice X0 (List.length x.1) Xa, .slice X1 (List.length x.2.1) Xb, .slice X2 (List.length x.2.2.1) Xc, .int .i64 x.2.2.2.1, .int .i64 x.2.2.2.2, .int .i64 0] (x, 0) := by
     have q := RdI.pr (b := .int) (QX.dr E5 b_34) (RdI.int (w := w5) (lo := w3.heap.size) (hi := w4.heap.size) (n := 0) b_33 b_34)
     exact q
    clear hw5
    refine hK.out _ _ ?_ (fun hHeld => ?_)
    ·(try dsimp only)
     try trivial
    clear hK K
    try simp only [layz]
    refine rz1 6 (fun K hK => ?_)
    have F5 : Dr B w3 w5 := (drz (E4.trans E5))
    have HGa := Lib.hid (HG3.out.dr F5 b_34)
    have hbk := HGa.out.block
    refine step_append_grow (e := tCacheEntry) b_35 _ _ 53 b_35 (w.heap.size + 1) [w1.heap.size] 127 info_CacheEntry rfl Try.underlying53 (.slice A (List.length l) cap) _ l [(x, (0 : Int))] b_35 b_35 HGa.out (ASrc.lit (te := 127) hL5 QE5 b_34 (by intro q hq; simp at hq; omega) (fun q hq => .inl (by have := (HG3.out.block q hq).2.1; omega))) ?_ ?_ ?_ ?_ ?_
    ·intro q hq; simp at hq; omega
    ·simp only [List.length_singleton]; omega
    ·simp only [List.length_singleton]; unfold maxLen; omega
    ·omega
    intro v' w6 hr' hg'
    have D6 := Lib.hid (Dr.grown (D3.out.trans F5) hg' (fun q hq => by have := (hbk q hq).1; omega))
    have hc6 : CurT w6 B := Cur.grown hc5 hg' (fun q hq => by have := (hbk q hq).1; omega)
    have z6 := hg'.size
    have hO6 : Blk w6 w.heap.size 55 #[.int .i64 0, .slice none 0 0] := Blk.grown (Dr.blk F5 hO3 b_34) hg' (fun e => by have := (hbk _ e.symm).1; omega)
    have hK6 : Blk w6 w1.heap.size 55 #[.int .i64 c, .slice A (List.length l) cap] := Blk.grown (Dr.blk F5 hK3 b_34) hg' (fun e => by have := (hbk _ e.symm).2.2; simp at this)
    obtain ⟨r, hr⟩ : ∃ r, r = l ++ [(x, (0 : Int))] := ⟨_, rfl⟩
    have hrb : Ty.bulk (.sl tCacheEntry) r ≤ 5000 := by rw [hr, bulk_app, bulk_one]; show _ + (Ty.bulk tData x + 0 + 1) ≤ 5000; omega
    rw [← hr] at hr'
    clear hr
    obtain ⟨A6, c6, rfl⟩ := hr'.form
    have HR := Lib.hid hr'
    clear hr' hg' hbk F5
    refine hK.out _ _ ?_ (fun hHeld => ?_)
    ·(try dsimp only)
     try trivial
    clear hK K
    try simp only [layz]
    refine tkz 7 ?_
    try simp only [layz]
    refine rz1 8 (fun K hK => ?_)
    obtain ⟨k0, k1, f0, f1⟩ := blk2 hK6
    have zk6 := hK6.lt
    go_simp
    clear k0 k1 f0 f1
    refine hK.out _ _ ?_ (fun hHeld => ?_)
    ·(try dsimp only)
     try trivial
    clear hK K
    try simp only [layz]
    refine wpAnyH_done b_31 ?_ _
    refine NoPanic.normal ?_
    go_wp2_with fail
    go_meet
    exact ⟨c, A6, c6, r, hrb, hci, hO6.far (p := ⟨w1.heap.size, 1, none⟩) b_30 _, hK6.set_ 1 _, HR.out.set (p := ⟨w1.heap.size, 1, none⟩) (.inr (by simp)) _, Cur.far hc6 (p := ⟨w1.heap.size, 1, none⟩) b_30 _, Dr.set D6.out (p := ⟨w1.heap.size, 1, none⟩) (.inr b_30) _⟩
   ·go_simp
    go_at_call 92
    refine Calls.mono (C_spec_l8Any _ B (cuz hc3)) ?_
    rintro e w4 ⟨hd4, hc4, csx, x, rfl, QX, hok⟩
    obtain ⟨E4, z4⟩ := ez w3 hd4
    (try simp only [szz] at QX)
    obtain ⟨X0, Xa, X1, Xb, X2, Xc, rfl, -⟩ := rd_Data QX.rd
    have hbx := thing_bulk hok
    clear hok
    clear hd4
    refine hK.out _ _ ?_ (fun hHeld => ?_)
    ·(try dsimp only)
     try trivial
    clear hK K
    try simp only [layz]
    refine tkz 4 ?_
    try simp only [layz]
    refine rz2 1 5 (fun K hK => ?_) (fun K hK => ?_)
    ·obtain ⟨k0, k1, -, -⟩ := blk2 (Dr.blk (drz E4) hK3 b_34)
     go_simp
     clear k0 k1
     refine hK.out _ _ ?_ (fun hHeld => ?_)
     ·(try dsimp only)
      try trivial
     clear hK K
     try simp only [layz]
     refine rz1 5 (fun K hK => ?_)
     go_simp
     refine abs_world (fun w5 hw5 => ?_)
     obtain ⟨E5, hc5, z5⟩ := nz hw5 hc4
     have hL5 : Blk w5 w4.heap.size 127 #[.slice X0 (List.length x.1) Xa, .slice X1 (List.length x.2.1) Xb, .slice X2 (List.length x.2.2.1) Xc, .int .i64 x.2.2.2.1, .int .i64 x.2.2.2.2, .int .i64 0] := by rw [hw5]; exact (by first | exact Blk.new _ _ _ | exact (Blk.new _ _ _).drew)
     have QE5 : RdI tCacheEntry w3.heap.size w4.heap.size w5 [.slice X0 (List.length x.1) Xa, .slice X1 (List.length x.2.1) Xb, .slice X2 (List.length x.2.2.1) Xc, .int .i64 x.2.2.2.1, .int .i64 x.2.2.2.2, .int .i64 0] (x, 0) := by
      have q := RdI.pr (b := .int) (QX.dr E5 b_34) (RdI.int (w := w5) (lo := w3.heap.size) (hi := w4.heap.size) (n := 0) b_33 b_34)
      exact q
     clear hw5
     refine hK.out _ _ ?_ (fun hHeld => ?_)
     ·(try dsimp only)
      try trivial
     clear hK K
     try simp only [layz]
     refine rz1 6 (fun K hK => ?_)
     have F5 : Dr B w3 w5 := (drz (E4.trans E5))
     have HGa := Lib.hid (HG3.out.dr F5 b_34)
     have hbk := HGa.out.block
     refine step_append_grow (e := tCacheEntry) b_35 _ _ 53 b_35 (w.heap.size + 1) [w1.heap.size] 127 info_CacheEntry rfl Try.underlying53 (.slice A (List.length l) cap) _ l [(x, (0 : Int))] b_35 b_35 HGa.out (ASrc.lit (te := 127) hL5 QE5 b_34 (by intro q hq; simp at hq; omega) (fun q hq => .inl (by have := (HG3.out.block q hq).2.1; omega))) ?_ ?_ ?_ ?_ ?_
     ·intro q hq; simp at hq; omega
     ·simp only [List.length_singleton]; omega
     ·simp only [List.length_singleton]; unfold maxLen; omega
     ·omega
     intro v' w6 hr' hg'
     have D6 := Lib.hid (Dr.grown (D3.out.trans F5) hg' (fun q hq => by have := (hbk q hq).1; omega))
     have hc6 : CurT w6 B := Cur.grown hc5 hg' (fun q hq => by have := (hbk q hq).1; omega)
     have z6 := hg'.size
     have hO6 : Blk w6 w.heap.size 55 #[.int .i64 0, .slice none 0 0] := Blk.grown (Dr.blk F5 hO3 b_34) hg' (fun e => by have := (hbk _ e.symm).1; omega)
     have hK6 : Blk w6 w1.heap.size 55 #[.int .i64 c, .slice A (List.length l) cap] := Blk.grown (Dr.blk F5 hK3 b_34) hg' (fun e => by have := (hbk _ e.symm).2.2; simp at this)
     obtain ⟨r, hr⟩ : ∃ r, r = l ++ [(x, (0 : Int))] := ⟨_, rfl⟩
     have hrb : Ty.bulk (.sl tCacheEntry) r ≤ 5000 := by rw [hr, bulk_app, bulk_one]; show _ + (Ty.bulk tData x + 0 + 1) ≤ 5000; omega
     rw [← hr] at hr'
     clear hr
     obtain ⟨A6, c6, rfl⟩ := hr'.form
     have HR := Lib.hid hr'
     clear hr' hg' hbk F5
     refine hK.out _ _ ?_ (fun hHeld => ?_)
     ·(try dsimp only)
      try trivial
     clear hK K
     try simp only [layz]
     refine tkz 7 ?_
     try simp only [layz]
     refine rz1 8 (fun K hK => ?_)
     obtain ⟨k0, k1, f0, f1⟩ := blk2 hK6
     have zk6 := hK6.lt
     go_simp
     clear k0 k1 f0 f1
     refine hK.out _ _ ?_ (fun hHeld => ?_)
     ·(try dsimp only)
      try trivial
     clear hK K
     try simp only [layz]
     refine wpAnyH_done b_31 ?_ _
     refine NoPanic.normal ?_
     go_wp2_with fail
     go_meet
     exact ⟨c, A6, c6, r, hrb, hci, hO6.far (p := ⟨w1.heap.size, 1, none⟩) b_30 _, hK6.set_ 1 _, HR.out.set (p := ⟨w1.heap.size, 1, none⟩) (.inr (by simp)) _, Cur.far hc6 (p := ⟨w1.heap.size, 1, none⟩) b_30 _, Dr.set D6.out (p := ⟨w1.heap.size, 1, none⟩) (.inr b_30) _⟩
    ·go_simp
     refine abs_world (fun w5 hw5 => ?_)
     obtain ⟨E5, hc5, z5⟩ := nz hw5 hc4
     have hL5 : Blk w5 w4.heap.size 127 #[.slice X0 (List.length x.1) Xa, .slice X1 (List.length x.2.1) Xb, .slice X2 (List.length x.2.2.1) Xc, .int .i64 x.2.2.2.1, .int .i64 x.2.2.2.2, .int .i64 0] := by rw [hw5]; exact (by first | exact Blk.new _ _ _ | exact (Blk.new _ _ _).drew)
     have QE5 : RdI tCacheEntry w3.heap.size w4.heap.size w5 [.slice X0 (List.length x.1) Xa, .slice X1 (List.length x.2.1) Xb, .slice X2 (List.length x.2.2.1) Xc, .int .i64 x.2.2.2.1, .int .i64 x.2.2.2.2, .int .i64 0] (x, 0) := by
      have q := RdI.pr (b := .int) (QX.dr E5 b_34) (RdI.int (w := w5) (lo := w3.heap.size) (hi := w4.heap.size) (n := 0) b_33 b_34)
      exact q
     clear hw5
     refine hK.out _ _ ?_ (fun hHeld => ?_)
     ·(try dsimp only)
      try trivial
     clear hK K
     try simp only [layz]
     refine rz1 1 (fun K hK => ?_)
     obtain ⟨k0, k1, -, -⟩ := blk2 (Dr.blk (drz (E4.trans E5)) hK3 b_34)
     go_simp
     clear k0 k1
     refine hK.out _ _ ?_ (fun hHeld => ?_)
     ·(try dsimp only)
      try trivial
     clear hK K
     try simp only [layz]
     refine rz1 6 (fun K hK => ?_)
     have F5 : Dr B w3 w5 := (drz (E4.trans E5))
     have HGa := Lib.hid (HG3.out.dr F5 b_34)
     have hbk := HGa.out.block
     refine step_append_grow (e := tCacheEntry) b_35 _ _ 53 b_35 (w.heap.size + 1) [w1.heap.size] 127 info_CacheEntry rfl Try.underlying53 (.slice A (List.length l) cap) _ l [(x, (0 : Int))] b_35 b_35 HGa.out (ASrc.lit (te := 127) hL5 QE5 b_34 (by intro q hq; simp at hq; omega) (fun q hq => .inl (by have := (HG3.out.block q hq).2.1; omega))) ?_ ?_ ?_ ?_ ?_
     ·intro q hq; simp at hq; omega
     ·simp only [List.length_singleton]; omega
     ·simp only [List.length_singleton]; unfold maxLen; omega
     ·omega
     intro v' w6 hr' hg'
     have D6 := Lib.hid (Dr.grown (D3.out.trans F5) hg' (fun q hq => by have := (hbk q hq).1; omega))
     have hc6 : CurT w6 B := Cur.grown hc5 hg' (fun q hq => by have := (hbk q hq).1; omega)
     have z6 := hg'.size
     have hO6 : Blk w6 w.heap.size 55 #[.int .i64 0, .slice none 0 0] := Blk.grown (Dr.blk F5 hO3 b_34) hg' (fun e => by have := (hbk _ e.symm).1; omega)
     have hK6 : Blk w6 w1.heap.size 55 #[.int .i64 c, .slice A (List.length l) cap] := Blk.grown (Dr.blk F5 hK3 b_34) hg' (fun e => by have := (hbk _ e.symm).2.2; simp at this)
     obtain ⟨r, hr⟩ : ∃ r, r = l ++ [(x, (0 : Int))] := ⟨_, rfl⟩
     have hrb : Ty.bulk (.sl tCacheEntry) r ≤ 5000 := by rw [hr, bulk_app, bulk_one]; show _ + (Ty.bulk tData x + 0 + 1) ≤ 5000; omega
     rw [← hr] at hr'
     clear hr
     obtain ⟨A6, c6, rfl⟩ := hr'.form
     have HR := Lib.hid hr'
     clear hr' hg' hbk F5
     refine hK.out _ _ ?_ (fun hHeld => ?_)
     ·(try dsimp only)
      try trivial
     clear hK K
     try simp only [layz]
     refine tkz 7 ?_
     try simp only [layz]
     refine rz1 8 (fun K hK => ?_)
     obtain ⟨k0, k1, f0, f1⟩ := blk2 hK6
     have zk6 := hK6.lt
     go_simp
     clear k0 k1 f0 f1
     refine hK.out _ _ ?_ (fun hHeld => ?_)
     ·(try dsimp only)
      try trivial
     clear hK K
     try simp only [layz]
     refine wpAnyH_done b_31 ?_ _
     refine NoPanic.normal ?_
     go_wp2_with fail
     go_meet
     exact ⟨c, A6, c6, r, hrb, hci, hO6.far (p := ⟨w1.heap.size, 1, none⟩) b_30 _, hK6.set_ 1 _, HR.out.set (p := ⟨w1.heap.size, 1, none⟩) (.inr (by simp)) _, Cur.far hc6 (p := ⟨w1.heap.size, 1, none⟩) b_30 _, Dr.set D6.out (p := ⟨w1.heap.size, 1, none⟩) (.inr b_30) _⟩
  ·by_cases h0 : 0 < List.length l
   ·have i0 : (0 : Int) < (List.length l : Int) := by omega
    obtain ⟨g9, ds, hA, hdl, hcell, hfr, hgb, hrd0, hsrc⟩ := HG3.out.at (k := 0) h0
    subst hA
    obtain ⟨Y0, Ya, Y1, Yb, Y2, Yc, rfl, -, -⟩ := rd_CacheEntry hrd0
    have hyb : Ty.bulk tCacheEntry l[0] ≤ 2400 := Ty.bulk_at hbl h0
    have e0 : w3.cell? ⟨g9, 0, none⟩ = some (.slice Y0 (List.length l[0].1.1) Ya) := by simpa [Ty.sz] using hcell 0 b_33
    have e1 : w3.cell? ⟨g9, 1, none⟩ = some (.slice Y1 (List.length l[0].1.2.1) Yb) := by simpa [Ty.sz] using hcell 1 b_33
    have e2 : w3.cell? ⟨g9, 2, none⟩ = some (.slice Y2 (List.length l[0].1.2.2.1) Yc) := by simpa [Ty.sz] using hcell 2 b_33
    have e3 : w3.cell? ⟨g9, 3, none⟩ = some (.int .i64 l[0].1.2.2.2.1) := by simpa [Ty.sz] using hcell 3 b_33
    have e4 : w3.cell? ⟨g9, 4, none⟩ = some (.int .i64 l[0].1.2.2.2.2) := by simpa [Ty.sz] using hcell 4 b_33
    have e5 : w3.cell? ⟨g9, 5, none⟩ = some (.int .i64 l[0].2) := by simpa [Ty.sz] using hcell 5 b_33
    have HSRC := Lib.hid hsrc
    have zg := hgb.2.1
    clear hcell hfr hdl hrd0 hsrc
    generalize l[0] = y at e0 e1 e2 e3 e4 e5 hyb HSRC
    obtain ⟨k0, k1, -, -⟩ := blk2 hK3
    go_wp2_with fail
    clear k0 k1
    refine wp_region_noPanic ?_
    refine wp_region_held_drew (S := (fun _ => True)) b_31 ?_ (fun hHeld => ?_)
    ·trivial
    refine tkz2 0 2 ?_
    try simp only [layz]
    refine rz2 1 3 (fun K hK => ?_) (fun K hK => ?_)
    ·obtain ⟨k0, k1, -, -⟩ := blk2 hK3.drew
     go_simp
     clear k0 k1
     refine hK.out _ _ ?_ (fun hHeld => ?_)
     ·(try dsimp only)
      try trivial
     clear hK K
     try simp only [layz]
     refine rz1 3 (fun K hK => ?_)
     obtain ⟨k0, k1, -, -⟩ := blk2 hK3.drew
     go_simp
     clear k0 k1
     refine hK.out _ _ ?_ (fun hHeld => ?_)
     ·(try dsimp only)
      try trivial
     clear hK K
     try simp only [layz]
     refine tkz 4 ?_
     try simp only [layz]
     refine rz1 5 (fun K hK => ?_)
     have q0 : w3.drew.cell? ⟨g9, 0, none⟩ = some (.slice Y0 (List.length y.1.1) Ya) := e0
     have q1 : w3.drew.cell? ⟨g9, 1, none⟩ = some (.slice Y1 (List.length y.1.2.1) Yb) := e1
     have q2 : w3.drew.cell? ⟨g9, 2, none⟩ = some (.slice Y2 (List.length y.1.2.2.1) Yc) := e2
     have q3 : w3.drew.cell? ⟨g9, 3, none⟩ = some (.int .i64 y.1.2.2.2.1) := e3
     have q4 : w3.drew.cell? ⟨g9, 4, none⟩ = some (.int .i64 y.1.2.2.2.2) := e4
     have q5 : w3.drew.cell? ⟨g9, 5, none⟩ = some (.int .i64 y.2) := e5
     go_simp
     clear q0 q1 q2 q3 q4 q5
     refine hK.out _ _ ?_ (fun hHeld => ?_)
     ·(try dsimp only)
      try trivial
     clear hK K
     try simp only [layz]
     refine rz1 6 (fun K hK => ?_)
     go_simp
     refine abs_world (fun w4 hw4 => ?_)
     obtain ⟨E4, hc4, z4⟩ := nz hw4 hc3
     have hL4 : Blk w4 w3.heap.size 127 #[.slice Y0 (List.length y.1.1) Ya, .slice Y1 (List.length y.1.2.1) Yb, .slice Y2 (List.length y.1.2.2.1) Yc, .int .i64 y.1.2.2.2.1, .int .i64 y.1.2.2.2.2, .int .i64 y.2] := by rw [hw4]; exact (by first | exact Blk.new _ _ _ | exact (Blk.new _ _ _).drew)
     have hb4 : Below w3.heap.size w3 w4 := by rw [hw4]; exact b_6
     clear hw4
     refine hK.out _ _ ?_ (fun hHeld => ?_)
     ·(try dsimp only)
      try trivial
     clear hK K
     try simp only [layz]
     refine rz1 7 (fun K hK => ?_)
     have HGa := Lib.hid (HG3.out.dr E4 b_34)
     have hbk := HGa.out.block
     refine step_append_grow (e := tCacheEntry) b_35 _ _ 53 b_35 (w.heap.size + 1) [w1.heap.size] 127 info_CacheEntry rfl Try.underlying53 (.slice (some ⟨g9, 0, none⟩) (List.length l) cap) _ l [y] b_35 b_35 HGa.out (HSRC.out _ 127 _ _ hb4 hL4) ?_ ?_ ?_ ?_ ?_
     ·intro q hq; simp at hq; omega
     ·simp only [List.length_singleton]; omega
     ·simp only [List.length_singleton]; unfold maxLen; omega
     ·omega
     intro v' w6 hr' hg'
     have D6 := Lib.hid (Dr.grown (D3.out.trans E4) hg' (fun q hq => by have := (hbk q hq).1; omega))
     have hc6 : CurT w6 B := Cur.grown hc4 hg' (fun q hq => by have := (hbk q hq).1; omega)
     have z6 := hg'.size
     have hO6 : Blk w6 w.heap.size 55 #[.int .i64 0, .slice none 0 0] := Blk.grown (Dr.blk E4 hO3 b_34) hg' (fun e => by have := (hbk _ e.symm).1; omega)
     have hK6 : Blk w6 w1.heap.size 55 #[.int .i64 c, .slice (some ⟨g9, 0, none⟩) (List.length l) cap] := Blk.grown (Dr.blk E4 hK3 b_34) hg' (fun e => by have := (hbk _ e.symm).2.2; simp at this)
     obtain ⟨r, hr⟩ : ∃ r, r = l ++ [y] := ⟨_, rfl⟩
     have hrb : Ty.bulk (.sl tCacheEntry) r ≤ 5000 := by rw [hr, bulk_app, bulk_one]; omega
     rw [← hr] at hr'
     clear hr
     obtain ⟨A6, c6, rfl⟩ := hr'.form
     have HR := Lib.hid hr'
     clear hr' hg' hbk
     refine hK.out _ _ ?_ (fun hHeld => ?_)
     ·(try dsimp only)
      try trivial
     clear hK K
     try simp only [layz]
     refine tkz 8 ?_
     try simp only [layz]
     refine rz1 9 (fun K hK => ?_)
     obtain ⟨k0, k1, f0, f1⟩ := blk2 hK6
     have zk6 := hK6.lt
     go_simp
     clear k0 k1 f0 f1
     refine hK.out _ _ ?_ (fun hHeld => ?_)
     ·(try dsimp only)
      try trivial
     clear hK K
     try simp only [layz]
     refine wpAnyH_done b_31 ?_ _
     refine NoPanic.normal ?_
     go_wp2_with fail
     go_meet
     exact ⟨c, A6, c6, r, hrb, hci, hO6.far (p := ⟨w1.heap.size, 1, none⟩) b_30 _, hK6.set_ 1 _, HR.out.set (p := ⟨w1.heap.size, 1, none⟩) (.inr (by simp)) _, Cur.far hc6 (p := ⟨w1.heap.size, 1, none⟩) b_30 _, Dr.set D6.out (p := ⟨w1.heap.size, 1, none⟩) (.inr b_30) _⟩
    ·obtain ⟨k0, k1, -, -⟩ := blk2 hK3.drew
     go_simp
     clear k0 k1
     refine hK.out _ _ ?_ (fun hHeld => ?_)
     ·(try dsimp only)
      try trivial
     clear hK K
     try simp only [layz]
     refine tkz 4 ?_
     try simp only [layz]
     refine rz2 1 5 (fun K hK => ?_) (fun K hK => ?_)
     ·obtain ⟨k0, k1, -, -⟩ := blk2 hK3.drew
      go_simp
      clear k0 k1
      refine hK.out _ _ ?_ (fun hHeld => ?_)
      ·(try dsimp only)
       try trivial
      clear hK K
      try simp only [layz]
      refine rz1 5 (fun K hK => ?_)
      have q0 : w3.drew.cell? ⟨g9, 0, none⟩ = some (.slice Y0 (List.length y.1.1) Ya) := e0
      have q1 : w3.drew.cell? ⟨g9, 1, none⟩ = some (.slice Y1 (List.length y.1.2.1) Yb) := e1
      have q2 : w3.drew.cell? ⟨g9, 2, none⟩ = some (.slice Y2 (List.length y.1.2.2.1) Yc) := e2
      have q3 : w3.drew.cell? ⟨g9, 3, none⟩ = some (.int .i64 y.1.2.2.2.1) := e3
      have q4 : w3.drew.cell? ⟨g9, 4, none⟩ = some (.int .i64 y.1.2.2.2.2) := e4
      have q5 : w3.drew.cell? ⟨g9, 5, none⟩ = some (.int .i64 y.2) := e5
      go_simp
      clear q0 q1 q2 q3 q4 q5
      refine hK.out _ _ ?_ (fun hHeld => ?_)
      ·(try dsimp only)
       try trivial
      clear hK K
      try simp only [layz]
      refine rz1 6 (fun K hK => ?_)
      go_simp
      refine abs_world (fun w4 hw4 => ?_)
      obtain ⟨E4, hc4, z4⟩ := nz hw4 hc3
      have hL4 : Blk w4 w3.heap.size 127 #[.slice Y0 (List.length y.1.1) Ya, .slice Y1 (List.length y.1.2.1) Yb, .slice Y2 (List.length y.1.2.2.1) Yc, .int .i64 y.1.2.2.2.1, .int .i64 y.1.2.2.2.2, .int .i64 y.2] := by rw [hw4]; exact (by first | exact Blk.new _ _ _ | exact (Blk.new _ _ _).drew)
      have hb4 : Below w3.heap.size w3 w4 := by rw [hw4]; exact b_6
      clear hw4
      refine hK.out _ _ ?_ (fun hHeld => ?_)
      ·(try dsimp only)
       try trivial
      clear hK K
      try simp only [layz]
      refine rz1 7 (fun K hK => ?_)
      have HGa := Lib.hid (HG3.out.dr E4 b_34)
      have hbk := HGa.out.block
      refine step_append_grow (e := tCacheEntry) b_35 _ _ 53 b_35 (w.heap.size + 1) [w1.heap.size] 127 info_CacheEntry rfl Try.underlying53 (.slice (some ⟨g9, 0, none⟩) (List.length l) cap) _ l [y] b_35 b_35 HGa.out (HSRC.out _ 127 _ _ hb4 hL4) ?_ ?_ ?_ ?_ ?_
      ·intro q hq; simp at hq; omega
      ·simp only [List.length_singleton]; omega
      ·simp only [List.length_singleton]; unfold maxLen; omega
      ·omega
      intro v' w6 hr' hg'
      have D6 := Lib.hid (Dr.grown (D3.out.trans E4) hg' (fun q hq => by have := (hbk q hq).1; omega))
      have hc6 : CurT w6 B := Cur.grown hc4 hg' (fun q hq => by have := (hbk q hq).1; omega)
      have z6 := hg'.size
      have hO6 : Blk w6 w.heap.size 55 #[.int .i64 0, .slice none 0 0] := Blk.grown (Dr.blk E4 hO3 b_34) hg' (fun e => by have := (hbk _ e.symm).1; omega)
      have hK6 : Blk w6 w1.heap.size 55 #[.int .i64 c, .slice (some ⟨g9, 0, none⟩) (List.length l) cap] := Blk.grown (Dr.blk E4 hK3 b_34) hg' (fun e => by have := (hbk _ e.symm).2.2; simp at this)
      obtain ⟨r, hr⟩ : ∃ r, r = l ++ [y] := ⟨_, rfl⟩
      have hrb : Ty.bulk (.sl tCacheEntry) r ≤ 5000 := by rw [hr, bulk_app, bulk_one]; omega
      rw [← hr] at hr'
      clear hr
      obtain ⟨A6, c6, rfl⟩ := hr'.form
      have HR := Lib.hid hr'
      clear hr' hg' hbk
      refine hK.out _ _ ?_ (fun hHeld => ?_)
      ·(try dsimp only)
       try trivial
      clear hK K
      try simp only [layz]
      refine tkz 8 ?_
      try simp only [layz]
      refine rz1 9 (fun K hK => ?_)
      obtain ⟨k0, k1, f0, f1⟩ := blk2 hK6
      have zk6 := hK6.lt
      go_simp
      clear k0 k1 f0 f1
      refine hK.out _ _ ?_ (fun hHeld => ?_)
      ·(try dsimp only)
       try trivial
      clear hK K
      try simp only [layz]
      refine wpAnyH_done b_31 ?_ _
      refine NoPanic.normal ?_
      go_wp2_with fail
      go_meet
      exact ⟨c, A6, c6, r, hrb, hci, hO6.far (p := ⟨w1.heap.size, 1, none⟩) b_30 _, hK6.set_ 1 _, HR.out.set (p := ⟨w1.heap.size, 1, none⟩) (.inr (by simp)) _, Cur.far hc6 (p := ⟨w1.heap.size, 1, none⟩) b_30 _, Dr.set D6.out (p := ⟨w1.heap.size, 1, none⟩) (.inr b_30) _⟩
     ·have q0 : w3.drew.cell? ⟨g9, 0, none⟩ = some (.slice Y0 (List.length y.1.1) Ya) := e0
      have q1 : w3.drew.cell? ⟨g9, 1, none⟩ = some (.slice Y1 (List.length y.1.2.1) Yb) := e1
      have q2 : w3.drew.cell? ⟨g9, 2, none⟩ = some (.slice Y2 (List.length y.1.2.2.1) Yc) := e2
      have q3 : w3.drew.cell? ⟨g9, 3, none⟩ = some (.int .i64 y.1.2.2.2.1) := e3
      have q4 : w3.drew.cell? ⟨g9, 4, none⟩ = some (.int .i64 y.1.2.2.2.2) := e4
      have q5 : w3.drew.cell? ⟨g9, 5, none⟩ = some (.int .i64 y.2) := e5
      go_simp
      clear q0 q1 q2 q3 q4 q5
      refine hK.out _ _ ?_ (fun hHeld => ?_)
      ·(try dsimp only)
       try trivial
      clear hK K
      try simp only [layz]
      refine rz2 1 6 (fun K hK => ?_) (fun K hK => ?_)
      ·obtain ⟨k0, k1, -, -⟩ := blk2 hK3.drew
       go_simp
       clear k0 k1
       refine hK.out _ _ ?_ (fun hHeld => ?_)
       ·(try dsimp only)
        try trivial
       clear hK K
       try simp only [layz]
       refine rz1 6 (fun K hK => ?_)
       go_simp
       refine abs_world (fun w4 hw4 => ?_)
       obtain ⟨E4, hc4, z4⟩ := nz hw4 hc3
       have hL4 : Blk w4 w3.heap.size 127 #[.slice Y0 (List.length y.1.1) Ya, .slice Y1 (List.length y.1.2.1) Yb, .slice Y2 (List.length y.1.2.2.1) Yc, .int .i64 y.1.2.2.2.1, .int .i64 y.1.2.2.2.2, .int .i64 y.2] := by rw [hw4]; exact (by first | exact Blk.new _ _ _ | exact (Blk.new _ _ _).drew)
       have hb4 : Below w3.heap.size w3 w4 := by rw [hw4]; exact b_6
       clear hw4
       refine hK.out _ _ ?_ (fun hHeld => ?_)
       ·(try dsimp only)
        try trivial
       clear hK K
       try simp only [layz]
       refine rz1 7 (fun K hK => ?_)
       have HGa := Lib.hid (HG3.out.dr E4 b_34)
       have hbk := HGa.out.block
       refine step_append_grow (e := tCacheEntry) b_35 _ _ 53 b_35 (w.heap.size + 1) [w1.heap.size] 127 info_CacheEntry rfl Try.underlying53 (.slice (some ⟨g9, 0, none⟩) (List.length l) cap) _ l [y] b_35 b_35 HGa.out (HSRC.out _ 127 _ _ hb4 hL4) ?_ ?_ ?_ ?_ ?_
       ·intro q hq; simp at hq; omega
       ·simp only [List.length_singleton]; omega
       ·simp only [List.length_singleton]; unfold maxLen; omega
       ·omega
       intro v' w6 hr' hg'
       have D6 := Lib.hid (Dr.grown (D3.out.trans E4) hg' (fun q hq => by have := (hbk q hq).1; omega))
       have hc6 : CurT w6 B := Cur.grown hc4 hg' (fun q hq => by have := (hbk q hq).1; omega)
       have z6 := hg'.size
       have hO6 : Blk w6 w.heap.size 55 #[.int .i64 0, .slice none 0 0] := Blk.grown (Dr.blk E4 hO3 b_34) hg' (fun e => by have := (hbk _ e.symm).1; omega)
       have hK6 : Blk w6 w1.heap.size 55 #[.int .i64 c, .slice (some ⟨g9, 0, none⟩) (List.length l) cap] := Blk.grown (Dr.blk E4 hK3 b_34) hg' (fun e => by have := (hbk _ e.symm).2.2; simp at this)
       obtain ⟨r, hr⟩ : ∃ r, r = l ++ [y] := ⟨_, rfl⟩
       have hrb : Ty.bulk (.sl tCacheEntry) r ≤ 5000 := by rw [hr, bulk_app, bulk_one]; omega
       rw [← hr] at hr'
       clear hr
       obtain ⟨A6, c6, rfl⟩ := hr'.form
       have HR := Lib.hid hr'
       clear hr' hg' hbk
       refine hK.out _ _ ?_ (fun hHeld => ?_)
       ·(try dsimp only)
        try trivial
       clear hK K
       try simp only [layz]
       refine tkz 8 ?_
       try simp only [layz]
       refine rz1 9 (fun K hK => ?_)
       obtain ⟨k0, k1, f0, f1⟩ := blk2 hK6
       have zk6 := hK6.lt
       go_simp
       clear k0 k1 f0 f1
       refine hK.out _ _ ?_ (fun hHeld => ?_)
       ·(try dsimp only)
        try trivial
       clear hK K
       try simp only [layz]
       refine wpAnyH_done b_31 ?_ _
       refine NoPanic.normal ?_
       go_wp2_with fail
       go_meet
       exact ⟨c, A6, c6, r, hrb, hci, hO6.far (p := ⟨w1.heap.size, 1, none⟩) b_30 _, hK6.set_ 1 _, HR.out.set (p := ⟨w1.heap.size, 1, none⟩) (.inr (by simp)) _, Cur.far hc6 (p := ⟨w1.heap.size, 1, none⟩) b_30 _, Dr.set D6.out (p := ⟨w1.heap.size, 1, none⟩) (.inr b_30) _⟩
      ·go_simp
       refine abs_world (fun w4 hw4 => ?_)
       obtain ⟨E4, hc4, z4⟩ := nz hw4 hc3
       have hL4 : Blk w4 w3.heap.size 127 #[.slice Y0 (List.length y.1.1) Ya, .slice Y1 (List.length y.1.2.1) Yb, .slice Y2 (List.length y.1.2.2.1) Yc, .int .i64 y.1.2.2.2.1, .int .i64 y.1.2.2.2.2, .int .i64 y.2] := by rw [hw4]; exact (by first | exact Blk.new _ _ _ | exact (Blk.new _ _ _).drew)
       have hb4 : Below w3.heap.size w3 w4 := by rw [hw4]; exact b_6
       clear hw4
       refine hK.out _ _ ?_ (fun hHeld => ?_)
       ·(try dsimp only)
        try trivial
       clear hK K
       try simp only [layz]
       refine rz1 1 (fun K hK => ?_)
       obtain ⟨k0, k1, -, -⟩ := blk2 (Dr.blk (drz E4) hK3 b_34)
       go_simp
       clear k0 k1
       refine hK.out _ _ ?_ (fun hHeld => ?_)
       ·(try dsimp only)
        try trivial
       clear hK K
       try simp only [layz]
       refine rz1 7 (fun K hK => ?_)
       have HGa := Lib.hid (HG3.out.dr E4 b_34)
       have hbk := HGa.out.block
       refine step_append_grow (e := tCacheEntry) b_35 _ _ 53 b_35 (w.heap.size + 1) [w1.heap.size] 127 info_CacheEntry rfl Try.underlying53 (.slice (some ⟨g9, 0, none⟩) (List.length l) cap) _ l [y] b_35 b_35 HGa.out (HSRC.out _ 127 _ _ hb4 hL4) ?_ ?_ ?_ ?_ ?_
       ·intro q hq; simp at hq; omega
       ·simp only [List.length_singleton]; omega
       ·simp only [List.length_singleton]; unfold maxLen; omega
       ·omega
       intro v' w6 hr' hg'
       have D6 := Lib.hid (Dr.grown (D3.out.trans E4) hg' (fun q hq => by have := (hbk q hq).1; omega))
       have hc6 : CurT w6 B := Cur.grown hc4 hg' (fun q hq => by have := (hbk q hq).1; omega)
       have z6 := hg'.size
       have hO6 : Blk w6 w.heap.size 55 #[.int .i64 0, .slice none 0 0] := Blk.grown (Dr.blk E4 hO3 b_34) hg' (fun e => by have := (hbk _ e.symm).1; omega)
       have hK6 : Blk w6 w1.heap.size 55 #[.int .i64 c, .slice (some ⟨g9, 0, none⟩) (List.length l) cap] := Blk.grown (Dr.blk E4 hK3 b_34) hg' (fun e => by have := (hbk _ e.symm).2.2; simp at this)
       obtain ⟨r, hr⟩ : ∃ r, r = l ++ [y] := ⟨_, rfl⟩
       have hrb : Ty.bulk (.sl tCacheEntry) r ≤ 5000 := by rw [hr, bulk_app, bulk_one]; omega
       rw [← hr] at hr'
       clear hr
       obtain ⟨A6, c6, rfl⟩ := hr'.form
       have HR := Lib.hid hr'
       clear hr' hg' hbk
       refine hK.out _ _ ?_ (fun hHeld => ?_)
       ·(try dsimp only)
        try trivial
       clear hK K
       try simp only [layz]
       refine tkz 8 ?_
       try simp only [layz]
       refine rz1 9 (fun K hK => ?_)
       obtain ⟨k0, k1, f0, f1⟩ := blk2 hK6
       have zk6 := hK6.lt
       go_simp
       clear k0 k1 f0 f1
       refine hK.out _ _ ?_ (fun hHeld => ?_)
       ·(try dsimp only)
        try trivial
       clear hK K
       try simp only [layz]
       refine wpAnyH_done b_31 ?_ _
       refine NoPanic.normal ?_
       go_wp2_with fail
       go_meet
       exact ⟨c, A6, c6, r, hrb, hci, hO6.far (p := ⟨w1.heap.size, 1, none⟩) b_30 _, hK6.set_ 1 _, HR.out.set (p := ⟨w1.heap.size, 1, none⟩) (.inr (by simp)) _, Cur.far hc6 (p := ⟨w1.heap.size, 1, none⟩) b_30 _, Dr.set D6.out (p := ⟨w1.heap.size, 1, none⟩) (.inr b_30) _⟩
   ·have i0 : ¬ ((0 : Int) < (List.length l : Int)) := by omega
    obtain ⟨k0, k1, -, -⟩ := blk2 hK3
    go_wp2_with fail
    go_meet
    exact ⟨c, A, cap, l, by omega, hci, hO3, hK3, HG3.out, hc3, D3.out⟩
  ·have q00 : (t == 0) = false := by rw [beq_eq_false_iff_ne]; exact ht.1
   have q10 : (t == 1) = false := by rw [beq_eq_false_iff_ne]; exact ht.2.1
   have q20 : (t == 2) = false := by rw [beq_eq_false_iff_ne]; exact ht.2.2
   go_wp2_with fail
   go_meet
   exact ⟨c, A, cap, l, by omega, hci, hO3, hK3, HG3.out, hc3, D3.out⟩
 obtain ⟨wr, hwr⟩ : ∃ V, V = wc := ⟨_, rfl⟩
 subst hwr
 clear HG2 D2 hO2 hK2 hc2 hbl hci hll
 obtain ⟨c, A, cap, l, hbl, hci, hOr, hKr, hG, hcr, hdr⟩ := hcut
 have HG := Lib.hid hG
 have hDr := Lib.hid hdr
 clear hG hdr
 obtain ⟨k0, k1, -, -⟩ := blk2 hKr
 obtain ⟨o0, o1, p0, p1⟩ := blk2 hOr
 have zo := hOr.lt
 go_wp2_with fail
 refine bodyPost_ret (v := .agg #[.int .i64 c, .slice A (List.length l) cap]) (by simp [results, Try.results91, go_sem, k0, k1, o0, o1, p0, p1, zo]) rfl ?_
 obtain ⟨wz, hwz⟩ : ∃ V, V = (wr.setCell ⟨w.heap.size, 0, none⟩ (.int .i64 c)).setCell ⟨w.heap.size, 1, none⟩ (.slice A (List.length l) cap) := ⟨_, rfl⟩
 obtain ⟨-, hk, hs, C, F⟩ := stored2 hOr hwz
 rw [← hwz]
 exact ⟨F B w (Nat.le_refl _) hDr.out, C B b_34 hcr, A, cap, (c, l), rfl, ((HG.out.unEx).keep hs (fun q h1 h2 h3 => hk q b_34)).mono b_34, ⟨hbl, hci⟩⟩
set_option maxRecDepth 100000 in
set_option maxHeartbeats 4000000 in
theorem C_spec_DrawNewContentStore (w : World) (v : Value) (b : List UInt8) (h : (Ty.sl .byte).rd w [v] b) :
  Calls Try.prog 26 #[v] w (fun e w' => (∃ n : Int, e = .returned (.int .i64 n) ∧ (-9223372036854775808 ≤ n ∧ n ≤ 9223372036854775807)) ∧ Below w.heap.size w w') := by
 obtain ⟨Ac, cc, rfl, _, _, _⟩ := Ty.rd_sl h
 go_enter Try.func26, Try.ntmps26
 go_wp2_with fail
 refine Calls.mono (C_spec_l1New _ _ b (Ty.rd_below b_6 h)) ?_
 rintro e w1 ⟨rfl, hb1, hc1⟩
 (try simp only [World.size_alloc] at hc1 ⊢)
 have z1 := hc1.lt
 have zb1 := hb1.size
 (try simp only [World.size_alloc] at zb1)
 have D1 : Dr (w.heap.size) w w1 := Dr.of (bel_trans b_6 hb1) _
 clear hb1
 have hB := hc1.lt
 go_wp2_with fail
 refine Calls.mono (C_spec_l1Int _ (w.heap.size) _ [-1, 0, 1, 8, 9] b_9 b_8 b_33 b_33) ?_
 rintro e w2 ⟨hd2, hc2, s, hs, rfl⟩
 have D2 : Dr (w.heap.size) w w2 := by first | exact D1.trans b_3 | exact D1.trans (Dr.trans b_3 hd2)
 have hsb := mem_word hs b_33
 go_wp2
 go_ret
 exact ⟨⟨s, rfl, by omega, by omega⟩, Dr.below D2 b_34 (Nat.le_refl _)⟩
set_option maxRecDepth 100000 in
set_option maxHeartbeats 4000000 in
theorem C_spec_DrawEvictStale (w : World) (v : Value) (b : List UInt8) (h : (Ty.sl .byte).rd w [v] b) :
  Calls Try.prog 24 #[v] w (fun e w' => (∃ A cap k n, e = .returned (.tuple #[.agg #[.int .i64 k.1, .slice A (List.length k.2) cap], .int .i64 n]) ∧ tContentStore.rd w' [.int .i64 k.1, .slice A (List.length k.2) cap] k ∧ okSt 5000 k ∧ (-9223372036854775808 ≤ n ∧ n ≤ 9223372036854775807)) ∧ Below w.heap.size w w') := by
 obtain ⟨Ac, cc, rfl, _, _, _⟩ := Ty.rd_sl h
 go_enter Try.func24, Try.ntmps24
 go_wp2_with fail
 refine Calls.mono (C_spec_l1New _ _ b (Ty.rd_below b_6 h)) ?_
 rintro e w1 ⟨rfl, hb1, hc1⟩
 (try simp only [World.size_alloc] at hc1 ⊢)
 have z1 := hc1.lt
 have zb1 := hb1.size
 (try simp only [World.size_alloc] at zb1)
 have hO1 : Blk w1 (w.heap.size) 55 #[.int .i64 0, .slice none 0 0] := by
  have := Blk.new w 55 #[.int .i64 0, .slice none 0 0]
  (try simp only [World.size_alloc] at this)
  exact Blk.below (this) hb1 (by (try simp only [World.size_alloc]); omega)
 have D1 : Dr (w.heap.size + 1) w w1 := Dr.of (bel_trans b_6 hb1) _
 clear hb1
 go_wp2_with fail
 refine Calls.mono (C_spec_l12Any _ (w.heap.size + 1) b_9) ?_
 rintro e w2 ⟨hd2, hc2, A, cap, k, rfl, hG, hok⟩
 have E2 : Dr (w.heap.size + 1) w1 w2 := b_3
 have z2 := E2.size
 have D2 := D1.trans E2
 have hO2 := Dr.blk E2 hO1 b_34
 obtain ⟨c, l⟩ := k
 have hcl : Ty.bulk (.sl tCacheEntry) l ≤ 5000 := hok.1
 have hci : -9223372036854775808 ≤ c ∧ c ≤ 9223372036854775807 := hok.2
 have G2 := Lib.hid (show GRow tCacheEntry w1.heap.size [] w2 127 (.slice A (List.length l) cap) l from hG)
 clear hok hG
 clear hd2 E2 D1 hc1 hO1
 go_wp2_with fail
 obtain ⟨w3, hw3⟩ : ∃ V, V = w2.alloc (.cells #[.int .i64 c, .slice A (List.length l) cap] 55) := ⟨_, rfl⟩
 have E3 : Dr (w.heap.size + 1) w2 w3 := by rw [hw3]; exact new_dr (w.heap.size + 1) w2 _
 have hc3 : CurT w3 (w.heap.size + 1) := by rw [hw3]; exact hc2.alloc _
 have hK3 : Blk w3 w2.heap.size 55 #[.int .i64 c, .slice A (List.length l) cap] := by rw [hw3]; exact Blk.new _ _ _
 have D3 := D2.trans E3
 have z3 := hK3.lt
 have hO3 := Dr.blk E3 hO2 b_34
 have G3 := Lib.hid (G2.out.dr E3 b_34)
 clear E3 D2 hc2 hO2 G2
 replace D3 := Lib.hid D3
 rw [← hw3]
 clear hw3
 have HC : Hid (∀ V, Dr (w.heap.size + 1) w3 V → V.cell? ⟨w2.heap.size, 0, none⟩ = some (.int .i64 c) ∧ V.cell? ⟨w2.heap.size, 1, none⟩ = some (.slice A (List.length l) cap)) := fun V hV => by
  obtain ⟨a0, a1, -, -⟩ := blk2 (Dr.blk hV hK3 b_34)
  exact ⟨a0, a1⟩
 refine wp_region_noPanic ?_
 refine wp_region_held_drew (S := (fun V => V.cell? ⟨w2.heap.size, 0, none⟩ = some (.int .i64 c) ∧ V.cell? ⟨w2.heap.size, 1, none⟩ = some (.slice A (List.length l) cap))) b_31 ?_ (fun hHeld => ?_)
 ·exact HC.out _ (Dr.drew (Dr.refl _ _))
 refine tkz2 0 1 ?_
 try simp only [layz]
 refine rz1 2 (fun K hK => ?_)
 go_simp
 go_at_call 69
 refine Calls.mono (C_spec_l1Below _ (w.heap.size + 1) 60 (cuz hc3) b_33 b_33) ?_
 rintro e w4 ⟨hd4, hc4, y, rfl, hy0, hy1⟩
 obtain ⟨E4, z4⟩ := ez w3 hd4
 have hwk : IntKind.i64.wrap (40 + y) = 40 + y := IntWalk.i64_in _ b_34
 have F4 : Dr (w.heap.size + 1) w3 w4 := (drz E4)
 have hO4 := Dr.blk F4 hO3 b_34
 have hK4 := Dr.blk F4 hK3 b_34
 have G4 := Lib.hid (G3.out.dr F4 b_34)
 have D4 := D3.out.trans F4
 clear hd4
 refine hK.out _ _ (HC.out _ (drz E4)) (fun hHeld => ?_)
 clear hK K
 try simp only [layz]
 refine tkz 3 ?_
 try simp only [layz]
 refine rz1 4 (fun K hK => ?_)
 obtain ⟨p0, p1, g0, g1⟩ := blk2 hO4
 have zp := hO4.lt
 go_simp
 refine abs_world (fun wO hw => ?_)
 obtain ⟨hOO, hk, hs, -, F⟩ := stored2 (v0 := .int .i64 c) (v1 := .slice A (List.length l) cap) hO4 hw
 have DOO := Lib.hid (F (w.heap.size + 1) w b_34 D4)
 have GO := Lib.hid (G4.out.keep hs (fun q h1 h2 h3 => hk q b_34))
 have hKO : Blk wO w2.heap.size 55 #[.int .i64 c, .slice A (List.length l) cap] := (hk _ b_34).trans hK4
 obtain ⟨a0, a1, -, -⟩ := blk2 hKO
 clear p0 p1 g0 g1 zp hw hk hs F
 refine hK.out _ _ (⟨a0, a1⟩) (fun hHeld => ?_)
 clear hK K
 try simp only [layz]
 refine tkz 5 ?_
 try simp only [layz]
 refine wpAnyH_done b_31 ?_ _
 refine NoPanic.normal ?_
 clear a0 a1
 go_wp2
 obtain ⟨p0, p1, -, -⟩ := blk2 hOO
 refine bodyPost_ret (v := .tuple #[.agg #[.int .i64 c, .slice A (List.length l) cap], .int .i64 (40 + y)]) (by simp [results, Try.results24, go_sem, p0, p1]) rfl ?_
 exact ⟨⟨A, cap, (c, l), _, rfl, (show tContentStore.rd _ [.int .i64 c, .slice _ (List.length l) cap] (c, l) from GO.out.store hci), ⟨hcl, hci⟩, by omega, by omega⟩, Dr.below DOO.out b_34 (Nat.le_refl _)⟩
set_option maxRecDepth 100000 in
set_option maxHeartbeats 4000000 in
theorem C_spec_DrawCacheData (w : World) (v : Value) (b : List UInt8) (h : (Ty.sl .byte).rd w [v] b) :
  Calls Try.prog 19 #[v] w (fun e w' => (∃ A cap k cs x n, e = .returned (.tuple #[.agg #[.int .i64 k.1, .slice A (List.length k.2) cap], .agg cs.toArray, .int .i64 n]) ∧ tContentStore.rd w' [.int .i64 k.1, .slice A (List.length k.2) cap] k ∧ okSt 5000 k ∧ tData.rd w' cs x ∧ okThing x ∧ (-9223372036854775808 ≤ n ∧ n ≤ 9223372036854775807)) ∧ Below w.heap.size w w') := by
 obtain ⟨Ac, cc, rfl, _, _, _⟩ := Ty.rd_sl h
 go_enter Try.func19, Try.ntmps19
 go_wp2_with fail
 refine Calls.mono (C_spec_l1New _ _ b (Ty.rd_below b_6 h)) ?_
 rintro e w1 ⟨rfl, hb1, hc1⟩
 (try simp only [World.size_alloc] at hc1 ⊢)
 have z1 := hc1.lt
 have zb1 := hb1.size
 (try simp only [World.size_alloc] at zb1)
 have hO1 : Blk w1 (w.heap.size) 55 #[.int .i64 0, .slice none 0 0] := by
  have := Blk.new w 55 #[.int .i64 0, .slice none 0 0]
  (try simp only [World.size_alloc] at this)
  exact Blk.below ((this).alloc _) hb1 (by (try simp only [World.size_alloc]); omega)
 have hP1 : Blk w1 (w.heap.size + 1) 46 #[.slice none 0 0, .slice none 0 0, .slice none 0 0, .int .i64 0, .int .i64 0] := by
  have := Blk.new (w.alloc (.cells #[.int .i64 0, .slice none 0 0] 55)) 46 #[.slice none 0 0, .slice none 0 0, .slice none 0 0, .int .i64 0, .int .i64 0]
  (try simp only [World.size_alloc] at this)
  exact Blk.below (this) hb1 (by (try simp only [World.size_alloc]); omega)
 have D1 : Dr (w.heap.size + 1 + 1) w w1 := Dr.of (bel_trans b_6 hb1) _
 clear hb1
 go_wp2_with fail
 refine Calls.mono (C_spec_l12Any _ (w.heap.size + 1 + 1) b_9) ?_
 rintro e w2 ⟨hd2, hc2, A, cap, k, rfl, hG, hok⟩
 have E2 : Dr (w.heap.size + 1 + 1) w1 w2 := b_3
 have z2 := E2.size
 have D2 := D1.trans E2
 have hO2 := Dr.blk E2 hO1 b_34
 have hP2 := Dr.blk E2 hP1 b_34
 obtain ⟨c, l⟩ := k
 have hcl : Ty.bulk (.sl tCacheEntry) l ≤ 5000 := hok.1
 have hci : -9223372036854775808 ≤ c ∧ c ≤ 9223372036854775807 := hok.2
 have G2 := Lib.hid (show GRow tCacheEntry w1.heap.size [] w2 127 (.slice A (List.length l) cap) l from hG)
 clear hok hG
 clear hd2 E2 D1 hc1 hO1 hP1
 go_wp2_with fail
 obtain ⟨w3, hw3⟩ : ∃ V, V = w2.alloc (.cells #[.int .i64 c, .slice A (List.length l) cap] 55) := ⟨_, rfl⟩
 have E3 : Dr (w.heap.size + 1 + 1) w2 w3 := by rw [hw3]; exact new_dr (w.heap.size + 1 + 1) w2 _
 have hc3 : CurT w3 (w.heap.size + 1 + 1) := by rw [hw3]; exact hc2.alloc _
 have hK3 : Blk w3 w2.heap.size 55 #[.int .i64 c, .slice A (List.length l) cap] := by rw [hw3]; exact Blk.new _ _ _
 have D3 := D2.trans E3
 have z3 := hK3.lt
 have hO3 := Dr.blk E3 hO2 b_34
 have hP3 := Dr.blk E3 hP2 b_34
 have G3 := Lib.hid (G2.out.dr E3 b_34)
 clear E3 D2 hc2 hO2 hP2 G2
 replace D3 := Lib.hid D3
 rw [← hw3]
 clear hw3
 have HC : Hid (∀ V, Dr (w.heap.size + 1 + 1) w3 V → V.cell? ⟨w2.heap.size, 0, none⟩ = some (.int .i64 c) ∧ V.cell? ⟨w2.heap.size, 1, none⟩ = some (.slice A (List.length l) cap)) := fun V hV => by
  obtain ⟨a0, a1, -, -⟩ := blk2 (Dr.blk hV hK3 b_34)
  exact ⟨a0, a1⟩
 refine wp_region_noPanic ?_
 refine wp_region_held_drew (S := (fun V => V.cell? ⟨w2.heap.size, 0, none⟩ = some (.int .i64 c) ∧ V.cell? ⟨w2.heap.size, 1, none⟩ = some (.slice A (List.length l) cap))) b_31 ?_ (fun hHeld => ?_)
 ·exact HC.out _ (Dr.drew (Dr.refl _ _))
 refine tkz3 0 1 3 ?_
 try simp only [layz]
 refine rz1 2 (fun K hK => ?_)
 go_simp
 go_at_call 92
 refine Calls.mono (C_spec_l8Any _ (w.heap.size + 1 + 1) (cuz hc3)) ?_
 rintro e w4 ⟨hd4, hc4, csx, x, rfl, QX, hok⟩
 obtain ⟨E4, z4⟩ := ez w3 hd4
 (try simp only [szz] at QX)
 obtain ⟨X0, Xa, X1, Xb, X2, Xc, rfl, -⟩ := rd_Data QX.rd
 have HOK := Lib.hid hok
 clear hok
 clear hd4
 refine hK.out _ _ (HC.out _ (drz E4)) (fun hHeld => ?_)
 clear hK K
 try simp only [layz]
 refine rz1 4 (fun K hK => ?_)
 go_simp
 go_at_call 69
 refine Calls.mono (C_spec_l1Below _ (w.heap.size + 1 + 1) 20 (cuz hc4) b_33 b_33) ?_
 rintro e w5 ⟨hd5, hc5, y, rfl, hy0, hy1⟩
 obtain ⟨E5, z5⟩ := ez w4 hd5
 have hwk : IntKind.i64.wrap (50 + y) = 50 + y := IntWalk.i64_in _ b_34
 clear hd5
 refine hK.out _ _ (HC.out _ (drz (E4.trans E5))) (fun hHeld => ?_)
 clear hK K
 try simp only [layz]
 refine tkz 5 ?_
 try simp only [layz]
 refine rz1 6 (fun K hK => ?_)
 have F5 := (E4.trans E5)
 have hO5 := Dr.blk F5 hO3 b_34
 have hP5 := Dr.blk F5 hP3 b_34
 have hK5 := Dr.blk F5 hK3 b_34
 have G5 := Lib.hid (G3.out.dr F5 b_34)
 have Q5 := QX.dr E5 b_34
 have D5 := D3.out.trans F5
 obtain ⟨p0, p1, g0, g1⟩ := blk2 hO5
 have zp := hO5.lt
 go_simp
 refine abs_world (fun wO hw => ?_)
 obtain ⟨hOO, hk, hs, -, F⟩ := stored2 (v0 := .int .i64 c) (v1 := .slice A (List.length l) cap) hO5 hw
 have DOO := Lib.hid (F (w.heap.size + 1 + 1) w b_34 D5)
 have GO := Lib.hid (G5.out.keep hs (fun q h1 h2 h3 => hk q b_34))
 have QO := Q5.keep hs (fun q h1 h2 => hk q b_34)
 have hKO : Blk wO w2.heap.size 55 #[.int .i64 c, .slice A (List.length l) cap] := (hk _ b_34).trans hK5
 have hPO : Blk wO (w.heap.size + 1) 46 #[.slice none 0 0, .slice none 0 0, .slice none 0 0, .int .i64 0, .int .i64 0] := (hk _ b_34).trans hP5
 obtain ⟨a0, a1, -, -⟩ := blk2 hKO
 clear p0 p1 g0 g1 zp hw hk hs F
 refine hK.out _ _ (⟨a0, a1⟩) (fun hHeld => ?_)
 clear hK K
 try simp only [layz]
 refine rz1 7 (fun K hK => ?_)
 obtain ⟨p0, p1, p2, p3, p4, g0, g1, g2, g3, g4⟩ := blk5 hPO
 have zp := hPO.lt
 go_simp
 refine abs_world (fun wP hw => ?_)
 obtain ⟨hPP, hk, hs, F⟩ := stored5n (v0 := .slice X0 (List.length x.1) Xa) (v1 := .slice X1 (List.length x.2.1) Xb) (v2 := .slice X2 (List.length x.2.2.1) Xc) (v3 := .int .i64 x.2.2.2.1) (v4 := .int .i64 x.2.2.2.2) hPO (by first | exact .inl hw | exact .inr hw)
 have DP := Lib.hid (F w (w.heap.size + 1 + 1) b_34 DOO.out)
 have GP := Lib.hid (GO.out.keep hs (fun q h1 h2 h3 => hk q b_34))
 have QP := QO.keep hs (fun q h1 h2 => hk q b_34)
 have hKP : Blk wP w2.heap.size 55 #[.int .i64 c, .slice A (List.length l) cap] := (hk _ b_34).trans hKO
 have hOP : Blk wP w.heap.size 55 #[.int .i64 c, .slice A (List.length l) cap] := (hk _ b_34).trans hOO
 clear a0 a1
 obtain ⟨a0, a1, -, -⟩ := blk2 hKP
 clear p0 p1 p2 p3 p4 g0 g1 g2 g3 g4 zp hw hk hs F
 refine hK.out _ _ (⟨a0, a1⟩) (fun hHeld => ?_)
 clear hK K
 try simp only [layz]
 refine tkz 8 ?_
 try simp only [layz]
 refine wpAnyH_done b_31 ?_ _
 refine NoPanic.normal ?_
 clear a0 a1
 go_wp2
 obtain ⟨o0, o1, -, -⟩ := blk2 hOP
 obtain ⟨p0, p1, p2, p3, p4, -⟩ := blk5 hPP
 refine bodyPost_ret (v := .tuple #[.agg #[.int .i64 c, .slice A (List.length l) cap], .agg #[.slice X0 (List.length x.1) Xa, .slice X1 (List.length x.2.1) Xb, .slice X2 (List.length x.2.2.1) Xc, .int .i64 x.2.2.2.1, .int .i64 x.2.2.2.2], .int .i64 (50 + y)]) (by simp [results, Try.results19, go_sem, o0, o1, p0, p1, p2, p3, p4]) rfl ?_
 exact ⟨⟨A, cap, (c, l), _, x, _, rfl, (show tContentStore.rd _ [.int .i64 c, .slice _ (List.length l) cap] (c, l) from GP.out.store hci), ⟨hcl, hci⟩, QP.rd, HOK.out, by omega, by omega⟩, Dr.below DP.out b_34 (Nat.le_refl _)⟩
set_option maxRecDepth 100000 in
set_option maxHeartbeats 4000000 in
theorem C_spec_DrawEqualContentStores (w : World) (v : Value) (b : List UInt8) (h : (Ty.sl .byte).rd w [v] b) :
  Calls Try.prog 25 #[v] w (fun e w' => (∃ A cap k A' cap' k', e = .returned (.tuple #[.agg #[.int .i64 k.1, .slice A (List.length k.2) cap], .agg #[.int .i64 k'.1, .slice A' (List.length k'.2) cap']]) ∧ tContentStore.rd w' [.int .i64 k.1, .slice A (List.length k.2) cap] k ∧ okSt 5000 k ∧ tContentStore.rd w' [.int .i64 k'.1, .slice A' (List.length k'.2) cap'] k' ∧ okSt 5000 k') ∧ Below w.heap.size w w') := by
 obtain ⟨Ac, cc, rfl, _, _, _⟩ := Ty.rd_sl h
 go_enter Try.func25, Try.ntmps25
 go_wp2_with fail
 refine Calls.mono (C_spec_l1New _ _ b (Ty.rd_below b_6 h)) ?_
 rintro e w1 ⟨rfl, hb1, hc1⟩
 (try simp only [World.size_alloc] at hc1 ⊢)
 have z1 := hc1.lt
 have zb1 := hb1.size
 (try simp only [World.size_alloc] at zb1)
 have hO1 : Blk w1 (w.heap.size) 55 #[.int .i64 0, .slice none 0 0] := by
  have := Blk.new w 55 #[.int .i64 0, .slice none 0 0]
  (try simp only [World.size_alloc] at this)
  exact Blk.below ((this).alloc _) hb1 (by (try simp only [World.size_alloc]); omega)
 have hP1 : Blk w1 (w.heap.size + 1) 55 #[.int .i64 0, .slice none 0 0] := by
  have := Blk.new (w.alloc (.cells #[.int .i64 0, .slice none 0 0] 55)) 55 #[.int .i64 0, .slice none 0 0]
  (try simp only [World.size_alloc] at this)
  exact Blk.below (this) hb1 (by (try simp only [World.size_alloc]); omega)
 have D1 : Dr (w.heap.size + 1 + 1) w w1 := Dr.of (bel_trans b_6 hb1) _
 clear hb1
 go_wp2_with fail
 refine Calls.mono (C_spec_l12Any _ (w.heap.size + 1 + 1) b_9) ?_
 rintro e w2 ⟨hd2, hc2, A, cap, k, rfl, hG, hok⟩
 have E2 : Dr (w.heap.size + 1 + 1) w1 w2 := b_3
 have z2 := E2.size
 have D2 := D1.trans E2
 have hO2 := Dr.blk E2 hO1 b_34
 have hP2 := Dr.blk E2 hP1 b_34
 obtain ⟨c, l⟩ := k
 have hcl : Ty.bulk (.sl tCacheEntry) l ≤ 5000 := hok.1
 have hci : -9223372036854775808 ≤ c ∧ c ≤ 9223372036854775807 := hok.2
 have G2 := Lib.hid (show GRow tCacheEntry w1.heap.size [] w2 127 (.slice A (List.length l) cap) l from hG)
 clear hok hG
 clear hd2 E2 D1 hc1 hO1 hP1
 go_wp2_with fail
 obtain ⟨w3, hw3⟩ : ∃ V, V = w2.alloc (.cells #[.int .i64 c, .slice A (List.length l) cap] 55) := ⟨_, rfl⟩
 have E3 : Dr (w.heap.size + 1 + 1) w2 w3 := by rw [hw3]; exact new_dr (w.heap.size + 1 + 1) w2 _
 have hc3 : CurT w3 (w.heap.size + 1 + 1) := by rw [hw3]; exact hc2.alloc _
 have hK3 : Blk w3 w2.heap.size 55 #[.int .i64 c, .slice A (List.length l) cap] := by rw [hw3]; exact Blk.new _ _ _
 have D3 := D2.trans E3
 have z3 := hK3.lt
 have hO3 := Dr.blk E3 hO2 b_34
 have hP3 := Dr.blk E3 hP2 b_34
 have G3 := Lib.hid (G2.out.dr E3 b_34)
 clear E3 D2 hc2 hO2 hP2 G2
 replace D3 := Lib.hid D3
 rw [← hw3]
 clear hw3
 refine Calls.mono (C_spec_l1Once _ (w.heap.size + 1 + 1) 2 b_9 b_33 b_33) ?_
 rintro e w4 ⟨hd4, hc4, bo, rfl⟩
 have E4 : Dr (w.heap.size + 1 + 1) w3 w4 := b_3
 have z4 := E4.size
 have hO4 := Dr.blk E4 hO3 b_34
 have hP4 := Dr.blk E4 hP3 b_34
 have hK4 := Dr.blk E4 hK3 b_34
 have G4 := Lib.hid (G3.out.dr E4 b_34)
 have D4 := Lib.hid (D3.out.trans E4)
 clear hd4 E4 D3 hc3 hO3 hP3 hK3 G3
 have HC : Hid (∀ V, Dr (w.heap.size + 1 + 1) w4 V → V.cell? ⟨w2.heap.size, 0, none⟩ = some (.int .i64 c) ∧ V.cell? ⟨w2.heap.size, 1, none⟩ = some (.slice A (List.length l) cap)) := fun V hV => by
  obtain ⟨a0, a1, -, -⟩ := blk2 (Dr.blk hV hK4 b_34)
  exact ⟨a0, a1⟩
 cases bo with
 | true =>
  obtain ⟨k0, k1, -, -⟩ := blk2 hK4
  go_wp2_with fail
  clear k0 k1
  refine wp_region_noPanic ?_
  refine wp_region_held_drew (S := (fun V => V.cell? ⟨w2.heap.size, 0, none⟩ = some (.int .i64 c) ∧ V.cell? ⟨w2.heap.size, 1, none⟩ = some (.slice A (List.length l) cap))) b_31 ?_ (fun hHeld => ?_)
  ·exact HC.out _ (Dr.drew (Dr.refl _ _))
  refine tkz2 0 1 ?_
  try simp only [layz]
  refine rz1 2 (fun K hK => ?_)
  go_simp
  go_at_call 102
  refine Calls.mono (C_spec_l12CopyR _ _ (c, l) ((by first | exact G4.out | exact G4.out.drew : GRow _ _ _ _ _ _ _).store hci) (by show 0 + Ty.bulk (.sl tCacheEntry) l ≤ 1048576; omega)) ?_
  rintro e w5 ⟨v5, rfl, hr5, hb5⟩
  obtain ⟨E5, z5⟩ := ez w4 (Dr.of hb5 (w.heap.size + 1 + 1))
  have hc5 : CurT w5 (w.heap.size + 1 + 1) := Cur.below (cuz hc4) hb5
  obtain ⟨A', cap', heq, hgr5, -⟩ := RetStore.grow ⟨v5, rfl, hr5, hb5⟩
  rw [keep_all] at heq hgr5
  simp only [Ending.returned.injEq, Value.agg.injEq, Array.mk.injEq, List.cons.injEq, and_true, true_and] at heq
  subst heq
  rw [keep_all]
  have HG5 := Lib.hid (show GRow tCacheEntry w4.heap.size [] w5 127 (.slice A' (List.length l) cap') l from hgr5)
  have hdi : (-9223372036854775808 ≤ c ∧ c ≤ 9223372036854775807) ∧ Ty.bulk (.sl tCacheEntry) l ≤ 5000 := ⟨hci, hcl⟩
  clear hr5 hgr5
  clear hb5
  refine hK.out _ _ (HC.out _ (drz E5)) (fun hHeld => ?_)
  clear hK K
  try simp only [layz]
  refine rz1 3 (fun K hK => ?_)
  have F5 : Dr (w.heap.size + 1 + 1) w4 w5 := (drz E5)
  have hO5 := Dr.blk F5 hO4 b_34
  have hP5 := Dr.blk F5 hP4 b_34
  have hK5 := Dr.blk F5 hK4 b_34
  have G5 := Lib.hid (G4.out.dr F5 b_34)
  have D5 := D4.out.trans F5
  obtain ⟨p0, p1, g0, g1⟩ := blk2 hO5
  have zp := hO5.lt
  go_simp
  refine abs_world (fun wO hw => ?_)
  obtain ⟨hOO, hk, hs, -, F⟩ := stored2 (v0 := .int .i64 c) (v1 := .slice A (List.length l) cap) hO5 hw
  have DOO := Lib.hid (F (w.heap.size + 1 + 1) w b_34 D5)
  have GO := Lib.hid (G5.out.keep hs (fun q h1 h2 h3 => hk q b_34))
  have HO := Lib.hid (HG5.out.keep hs (fun q h1 h2 h3 => hk q b_34))
  have hKO : Blk wO w2.heap.size 55 #[.int .i64 c, .slice A (List.length l) cap] := (hk _ b_34).trans hK5
  have hPO : Blk wO (w.heap.size + 1) 55 #[.int .i64 0, .slice none 0 0] := (hk _ b_34).trans hP5
  obtain ⟨a0, a1, -, -⟩ := blk2 hKO
  clear p0 p1 g0 g1 zp hw hk hs F
  refine hK.out _ _ (⟨a0, a1⟩) (fun hHeld => ?_)
  clear hK K
  try simp only [layz]
  refine rz1 4 (fun K hK => ?_)
  obtain ⟨p0, p1, g0, g1⟩ := blk2 hPO
  have zp := hPO.lt
  go_simp
  refine abs_world (fun wP hw => ?_)
  obtain ⟨hPP, hk, hs, -, F⟩ := stored2 (v0 := .int .i64 c) (v1 := .slice A' (List.length l) cap') hPO hw
  have DPP := Lib.hid (F (w.heap.size + 1 + 1) w b_34 DOO.out)
  have GP := Lib.hid (GO.out.keep hs (fun q h1 h2 h3 => hk q b_34))
  have HP := Lib.hid (HO.out.keep hs (fun q h1 h2 h3 => hk q b_34))
  have hKP : Blk wP w2.heap.size 55 #[.int .i64 c, .slice A (List.length l) cap] := (hk _ b_34).trans hKO
  have hOP : Blk wP w.heap.size 55 #[.int .i64 c, .slice A (List.length l) cap] := (hk _ b_34).trans hOO
  clear a0 a1
  obtain ⟨a0, a1, -, -⟩ := blk2 hKP
  clear p0 p1 g0 g1 zp hw hk hs F
  refine hK.out _ _ (⟨a0, a1⟩) (fun hHeld => ?_)
  clear hK K
  try simp only [layz]
  refine wpAnyH_done b_31 ?_ _
  refine NoPanic.normal ?_
  clear a0 a1
  go_wp2
  obtain ⟨o0, o1, -, -⟩ := blk2 hOP
  obtain ⟨p0, p1, -, -⟩ := blk2 hPP
  refine bodyPost_ret (v := .tuple #[.agg #[.int .i64 c, .slice A (List.length l) cap], .agg #[.int .i64 c, .slice A' (List.length l) cap']]) (by simp [results, Try.results25, go_sem, o0, o1, p0, p1]) rfl ?_
  exact ⟨⟨A, cap, (c, l), A', cap', (c, l), rfl, (show tContentStore.rd _ [.int .i64 c, .slice _ (List.length l) cap] (c, l) from GP.out.store hci), ⟨hcl, hci⟩, HP.out.store hdi.1, ⟨hdi.2, hdi.1⟩⟩, Dr.below DPP.out b_34 (Nat.le_refl _)⟩
 | false =>
  obtain ⟨k0, k1, -, -⟩ := blk2 hK4
  go_wp2_with fail
  clear k0 k1
  refine wp_region_noPanic ?_
  refine wp_region_held_drew (S := (fun V => V.cell? ⟨w2.heap.size, 0, none⟩ = some (.int .i64 c) ∧ V.cell? ⟨w2.heap.size, 1, none⟩ = some (.slice A (List.length l) cap))) b_31 ?_ (fun hHeld => ?_)
  ·exact HC.out _ (Dr.drew (Dr.refl _ _))
  refine tkz2 0 1 ?_
  try simp only [layz]
  refine rz1 2 (fun K hK => ?_)
  go_simp
  go_at_call 91
  refine Calls.mono (C_spec_l12Any _ (w.heap.size + 1 + 1) (cuz hc4)) ?_
  rintro e w5 ⟨hd5, hc5, A', cap', k', rfl, hG5, hok5⟩
  obtain ⟨E5, z5⟩ := ez w4 hd5
  obtain ⟨d, l'⟩ := k'
  have hdi : (-9223372036854775808 ≤ d ∧ d ≤ 9223372036854775807) ∧ Ty.bulk (.sl tCacheEntry) l' ≤ 5000 := ⟨hok5.2, hok5.1⟩
  (try simp only [szz] at hG5)
  have HG5 := Lib.hid (show GRow tCacheEntry _ [] w5 127 (.slice A' (List.length l') cap') l' from hG5)
  clear hok5 hG5
  clear hd5
  refine hK.out _ _ (HC.out _ (drz E5)) (fun hHeld => ?_)
  clear hK K
  try simp only [layz]
  refine rz1 3 (fun K hK => ?_)
  have F5 : Dr (w.heap.size + 1 + 1) w4 w5 := (drz E5)
  have hO5 := Dr.blk F5 hO4 b_34
  have hP5 := Dr.blk F5 hP4 b_34
  have hK5 := Dr.blk F5 hK4 b_34
  have G5 := Lib.hid (G4.out.dr F5 b_34)
  have D5 := D4.out.trans F5
  obtain ⟨p0, p1, g0, g1⟩ := blk2 hO5
  have zp := hO5.lt
  go_simp
  refine abs_world (fun wO hw => ?_)
  obtain ⟨hOO, hk, hs, -, F⟩ := stored2 (v0 := .int .i64 c) (v1 := .slice A (List.length l) cap) hO5 hw
  have DOO := Lib.hid (F (w.heap.size + 1 + 1) w b_34 D5)
  have GO := Lib.hid (G5.out.keep hs (fun q h1 h2 h3 => hk q b_34))
  have HO := Lib.hid (HG5.out.keep hs (fun q h1 h2 h3 => hk q b_34))
  have hKO : Blk wO w2.heap.size 55 #[.int .i64 c, .slice A (List.length l) cap] := (hk _ b_34).trans hK5
  have hPO : Blk wO (w.heap.size + 1) 55 #[.int .i64 0, .slice none 0 0] := (hk _ b_34).trans hP5
  obtain ⟨a0, a1, -, -⟩ := blk2 hKO
  clear p0 p1 g0 g1 zp hw hk hs F
  refine hK.out _ _ (⟨a0, a1⟩) (fun hHeld => ?_)
  clear hK K
  try simp only [layz]
  refine rz1 4 (fun K hK => ?_)
  obtain ⟨p0, p1, g0, g1⟩ := blk2 hPO
  have zp := hPO.lt
  go_simp
  refine abs_world (fun wP hw => ?_)
  obtain ⟨hPP, hk, hs, -, F⟩ := stored2 (v0 := .int .i64 d) (v1 := .slice A' (List.length l') cap') hPO hw
  have DPP := Lib.hid (F (w.heap.size + 1 + 1) w b_34 DOO.out)
  have GP := Lib.hid (GO.out.keep hs (fun q h1 h2 h3 => hk q b_34))
  have HP := Lib.hid (HO.out.keep hs (fun q h1 h2 h3 => hk q b_34))
  have hKP : Blk wP w2.heap.size 55 #[.int .i64 c, .slice A (List.length l) cap] := (hk _ b_34).trans hKO
  have hOP : Blk wP w.heap.size 55 #[.int .i64 c, .slice A (List.length l) cap] := (hk _ b_34).trans hOO
  clear a0 a1
  obtain ⟨a0, a1, -, -⟩ := blk2 hKP
  clear p0 p1 g0 g1 zp hw hk hs F
  refine hK.out _ _ (⟨a0, a1⟩) (fun hHeld => ?_)
  clear hK K
  try simp only [layz]
  refine wpAnyH_done b_31 ?_ _
  refine NoPanic.normal ?_
  clear a0 a1
  go_wp2
  obtain ⟨o0, o1, -, -⟩ := blk2 hOP
  obtain ⟨p0, p1, -, -⟩ := blk2 hPP
  refine bodyPost_ret (v := .tuple #[.agg #[.int .i64 c, .slice A (List.length l) cap], .agg #[.int .i64 d, .slice A' (List.length l') cap']]) (by simp [results, Try.results25, go_sem, o0, o1, p0, p1]) rfl ?_
  exact ⟨⟨A, cap, (c, l), A', cap', (d, l'), rfl, (show tContentStore.rd _ [.int .i64 c, .slice _ (List.length l) cap] (c, l) from GP.out.store hci), ⟨hcl, hci⟩, HP.out.store hdi.1, ⟨hdi.2, hdi.1⟩⟩, Dr.below DPP.out b_34 (Nat.le_refl _)⟩
set_option maxRecDepth 100000 in
set_option maxHeartbeats 4000000 in
theorem C_spec_l12Pair (w : World) (v : Value) (b : List UInt8) (h : (Ty.sl .byte).rd w [v] b) :
  Calls Try.prog 98 #[v] w (fun e w' => (∃ A cap k cs n t, e = .returned (.tuple #[.agg #[.int .i64 k.1, .slice A (List.length k.2) cap], .agg cs.toArray, .int .i64 t]) ∧ RdI (.sl tCacheEntry) w.heap.size w'.heap.size w' [.slice A (List.length k.2) cap] k.2 ∧ okSt 5000 k ∧ RdI (.sl .str) w.heap.size w'.heap.size w' cs n ∧ Ty.bulk (.sl .str) n ≤ 5000 ∧ (-9223372036854775808 ≤ t ∧ t ≤ 9223372036854775807)) ∧ Below w.heap.size w w') := by
 obtain ⟨Ac, cc, rfl, _, _, _⟩ := Ty.rd_sl h
 go_enter Try.func98, Try.ntmps98
 go_wp2_with fail
 refine Calls.mono (C_spec_l1New _ _ b (Ty.rd_below b_6 h)) ?_
 rintro e w1 ⟨rfl, hb1, hc1⟩
 (try simp only [World.size_alloc] at hc1 ⊢)
 have z1 := hc1.lt
 have zb1 := hb1.size
 (try simp only [World.size_alloc] at zb1)
 have hO1 : Blk w1 (w.heap.size) 55 #[.int .i64 0, .slice none 0 0] := by
  have := Blk.new w 55 #[.int .i64 0, .slice none 0 0]
  (try simp only [World.size_alloc] at this)
  exact Blk.below ((this).alloc _) hb1 (by (try simp only [World.size_alloc]); omega)
 have hP1 : Blk w1 (w.heap.size + 1) 27 #[.slice none 0 0] := by
  have := Blk.new (w.alloc (.cells #[.int .i64 0, .slice none 0 0] 55)) 27 #[.slice none 0 0]
  (try simp only [World.size_alloc] at this)
  exact Blk.below (this) hb1 (by (try simp only [World.size_alloc]); omega)
 have D1 : Dr (w.heap.size + 1 + 1) w w1 := Dr.of (bel_trans b_6 hb1) _
 clear hb1
 go_wp2_with fail
 refine Calls.mono (C_spec_l12Any _ (w.heap.size + 1 + 1) b_9) ?_
 rintro e w2 ⟨hd2, hc2, A, cap, k, rfl, hG, hok⟩
 have E2 : Dr (w.heap.size + 1 + 1) w1 w2 := b_3
 have z2 := E2.size
 have D2 := D1.trans E2
 have hO2 := Dr.blk E2 hO1 b_34
 have hP2 := Dr.blk E2 hP1 b_34
 obtain ⟨c, l⟩ := k
 have hcl : Ty.bulk (.sl tCacheEntry) l ≤ 5000 := hok.1
 have hci : -9223372036854775808 ≤ c ∧ c ≤ 9223372036854775807 := hok.2
 have G2 := Lib.hid (show GRow tCacheEntry w1.heap.size [] w2 127 (.slice A (List.length l) cap) l from hG)
 clear hok hG
 clear hd2 E2 D1 hc1 hO1 hP1
 go_wp2_with fail
 obtain ⟨w3, hw3⟩ : ∃ V, V = w2.alloc (.cells #[.int .i64 c, .slice A (List.length l) cap] 55) := ⟨_, rfl⟩
 have E3 : Dr (w.heap.size + 1 + 1) w2 w3 := by rw [hw3]; exact new_dr (w.heap.size + 1 + 1) w2 _
 have hc3 : CurT w3 (w.heap.size + 1 + 1) := by rw [hw3]; exact hc2.alloc _
 have hK3 : Blk w3 w2.heap.size 55 #[.int .i64 c, .slice A (List.length l) cap] := by rw [hw3]; exact Blk.new _ _ _
 have D3 := D2.trans E3
 have z3 := hK3.lt
 have hO3 := Dr.blk E3 hO2 b_34
 have hP3 := Dr.blk E3 hP2 b_34
 have G3 := Lib.hid (G2.out.dr E3 b_34)
 clear E3 D2 hc2 hO2 hP2 G2
 rw [← hw3]
 clear hw3
 refine Calls.mono (C_spec_l8Draw _ (w.heap.size + 1 + 1) b_9) ?_
 rintro e w4 ⟨hd4, hc4, csx, x, rfl, QX, hok⟩
 obtain ⟨X0, Xa, X1, Xb, X2, Xc, rfl, -⟩ := rd_Data QX.rd
 (try simp only [World.size_alloc] at QX)
 have QN4 : Hid (RdI (.sl .str) w3.heap.size w4.heap.size w4 [.slice X0 (List.length x.1) Xa] x.1) := Lib.hid (RdI.fst (a := .sl .str) QX)
 have hnb := name_of_data_bulk x
 have hxb := thing_bulk hok
 have E4 : Dr (w.heap.size + 1 + 1) w3 w4 := b_3
 have z4 := E4.size
 have hO4 := Dr.blk E4 hO3 b_34
 have hP4 := Dr.blk E4 hP3 b_34
 have hK4 := Dr.blk E4 hK3 b_34
 have G4 := Lib.hid (G3.out.dr E4 b_34)
 have D4 := D3.trans E4
 clear hd4 E4 D3 hc3 hO3 hP3 hK3 G3 QX hok
 have hfd : ∀ W : World, (Instr.field 46 (.agg #[.slice X0 (List.length x.1) Xa, .slice X1 (List.length x.2.1) Xb, .slice X2 (List.length x.2.2.1) Xc, .int .i64 x.2.2.2.1, .int .i64 x.2.2.2.2]) 0).run Try.prog W = .ok (.agg #[.slice X0 (List.length x.1) Xa]) W := fun W => fld_name _ _ _ _ _ _ _ _ _ _ _ W
 go_upto_region 4 with fail
 clear hfd
 replace G4 := Lib.hid (GRow.addEx (g := w4.heap.size) G4.out (Nat.le_refl _))
 obtain ⟨w5, hw5⟩ : ∃ V, V = w4.alloc (.cells #[.slice X0 (List.length x.1) Xa] 27) := ⟨_, rfl⟩
 have E5 : Dr (w.heap.size + 1 + 1) w4 w5 := by rw [hw5]; exact new_dr (w.heap.size + 1 + 1) w4 _
 have hc5 : CurT w5 (w.heap.size + 1 + 1) := by rw [hw5]; exact hc4.alloc _
 have hN5 : Blk w5 w4.heap.size 27 #[.slice X0 (List.length x.1) Xa] := by rw [hw5]; exact Blk.new _ _ _
 have D5 := D4.trans E5
 have z5 := hN5.lt
 have hO5 := Dr.blk E5 hO4 b_34
 have hP5 := Dr.blk E5 hP4 b_34
 have hK5 := Dr.blk E5 hK4 b_34
 have G5 := Lib.hid (G4.out.dr E5 b_34)
 clear E5 D4 hc4 hO4 hP4 hK4 G4
 have QN5 := Lib.hid (QN4.out.dr (by rw [hw5]; exact new_dr (w.heap.size + 1 + 1) w4 _ : Dr (w.heap.size + 1 + 1) w4 w5) b_34)
 clear QN4
 replace D5 := Lib.hid D5
 rw [← hw5]
 clear hw5
 have hnb : Ty.bulk (.sl .str) x.1 ≤ 5000 := by omega
 generalize x.1 = n at *
 obtain ⟨k0, k1, -, -⟩ := blk2 hK5
 by_cases h0 : 0 < List.length l
 ·have i0 : (0 : Int) < (List.length l : Int) := by omega
  obtain ⟨g9, ds0, hA, -, -, -, -, -, -⟩ := G5.out.at (k := 0) h0
  subst hA
  go_wp2_with fail
  clear k0 k1
  refine Calls.mono (C_spec_l1Once _ (w.heap.size + 1 + 1) 2 b_9 b_33 b_33) ?_
  rintro e w6 ⟨hd6, hc6, bo, rfl⟩
  have E6 : Dr (w.heap.size + 1 + 1) w5 w6 := b_3
  have z6 := E6.size
  have hO6 := Dr.blk E6 hO5 b_34
  have hP6 := Dr.blk E6 hP5 b_34
  have hK6 := Dr.blk E6 hK5 b_34
  have hN6 := Dr.blk E6 hN5 b_34
  have G6 := Lib.hid (G5.out.dr E6 b_34)
  have QN6 := Lib.hid (QN5.out.dr E6 b_34)
  have D6 := Lib.hid (D5.out.trans E6)
  clear hd6 E6 D5 hc5 hO5 hP5 hK5 hN5 G5 QN5
  cases bo with
  | false =>
   go_wp2_with fail
   have HC6 : Hid (∀ V, Dr (w.heap.size + 1 + 1) w6 V → V.cell? ⟨w2.heap.size, 0, none⟩ = some (.int .i64 c) ∧ V.cell? ⟨w2.heap.size, 1, none⟩ = some (.slice (some ⟨g9, 0, none⟩) (List.length l) cap) ∧ V.cell? ⟨w4.heap.size, 0, none⟩ = some (.slice X0 (List.length n) Xa)) := fun V hV => by
    obtain ⟨a0, a1, -, -⟩ := blk2 (Dr.blk hV hK6 b_34)
    exact ⟨a0, a1, (Dr.blk hV hN6 b_34).cell 0⟩
   refine wp_region_noPanic ?_
   refine wp_region_held_drew (S := (fun V => V.cell? ⟨w2.heap.size, 0, none⟩ = some (.int .i64 c) ∧ V.cell? ⟨w2.heap.size, 1, none⟩ = some (.slice (some ⟨g9, 0, none⟩) (List.length l) cap) ∧ V.cell? ⟨w4.heap.size, 0, none⟩ = some (.slice X0 (List.length n) Xa))) b_31 ?_ (fun hHeld => ?_)
   ·exact HC6.out _ (Dr.drew (Dr.refl _ _))
   refine tkz3 0 1 2 ?_
   try simp only [layz]
   refine rz1 3 (fun K hK => ?_)
   go_simp
   go_at_call 69
   refine Calls.mono (C_spec_l1Below _ (w.heap.size + 1 + 1) 60 (cuz hc6) b_33 b_33) ?_
   rintro e w7 ⟨hd7, hc7, y, rfl, hy0, hy1⟩
   obtain ⟨E7, z7⟩ := ez w6 hd7
   have hwk : IntKind.i64.wrap (40 + y) = 40 + y := IntWalk.i64_in _ b_34
   clear hd7
   refine hK.out _ _ (HC6.out _ (drz E7)) (fun hHeld => ?_)
   clear hK K
   try simp only [layz]
   refine tkz 4 ?_
   try simp only [layz]
   refine rz1 5 (fun K hK => ?_)
   have F := ((drz E7) : Dr (w.heap.size + 1 + 1) w6 w7)
   have hO7 := Dr.blk F hO6 b_34
   have hP7 := Dr.blk F hP6 b_34
   have hK7 := Dr.blk F hK6 b_34
   have hN7 := Dr.blk F hN6 b_34
   have G7 := Lib.hid (G6.out.dr F b_34)
   have QN7 := Lib.hid (QN6.out.dr F b_34)
   have D7 := D6.out.trans F
   obtain ⟨p0, p1, g0, g1⟩ := blk2 hO7
   have zp := hO7.lt
   go_simp
   refine abs_world (fun wO hw => ?_)
   obtain ⟨hOO, hk, hs, -, F⟩ := stored2 (v0 := .int .i64 c) (v1 := .slice (some ⟨g9, 0, none⟩) (List.length l) cap) hO7 hw
   have DOO := Lib.hid (F (w.heap.size + 1 + 1) w b_34 D7)
   have GO := Lib.hid (G7.out.keep hs (fun q h1 h2 h3 => hk q b_34))
   have QO := Lib.hid (QN7.out.keep hs (fun q h1 h2 => hk q b_34))
   have hKO : Blk wO w2.heap.size 55 #[.int .i64 c, .slice (some ⟨g9, 0, none⟩) (List.length l) cap] := (hk _ b_34).trans hK7
   have hNO : Blk wO w4.heap.size 27 #[.slice X0 (List.length n) Xa] := (hk _ b_34).trans hN7
   have hPO : Blk wO (w.heap.size + 1) 27 #[.slice none 0 0] := (hk _ b_34).trans hP7
   obtain ⟨a0, a1, -, -⟩ := blk2 hKO
   have a2 := hNO.cell 0
   clear F
   clear p0 p1 g0 g1 zp hw hk hs F
   refine hK.out _ _ (⟨a0, a1, a2⟩) (fun hHeld => ?_)
   clear hK K
   try simp only [layz]
   refine rz1 6 (fun K hK => ?_)
   have p0 := hPO.cell 0
   have g0 : wO.frozen? ⟨w.heap.size + 1, 0, none⟩ = false := hPO.f1
   have zp := hPO.lt
   go_simp
   refine abs_world (fun wP hw => ?_)
   have hPP : Blk wP (w.heap.size + 1) 27 #[.slice X0 (List.length n) Xa] := by rw [hw]; exact hPO.set_ 0 _
   have hk : ∀ q, q ≠ w.heap.size + 1 → wP.heap[q]? = wO.heap[q]? := fun q hq => by rw [hw, Below.heap_setCell _ _ _ _ hq]
   have hs : wO.heap.size ≤ wP.heap.size := by rw [hw, World.size_setCell]; exact Nat.le_refl _
   have DP := Lib.hid (show Dr (w.heap.size + 1 + 1) w wP by rw [hw]; exact Dr.set DOO.out (.inr b_30) _)
   have GP := Lib.hid (GO.out.keep hs (fun q h1 h2 h3 => hk q b_34))
   have QP := Lib.hid (QO.out.keep hs (fun q h1 h2 => hk q b_34))
   have hKP : Blk wP w2.heap.size 55 #[.int .i64 c, .slice (some ⟨g9, 0, none⟩) (List.length l) cap] := (hk _ b_34).trans hKO
   have hNP : Blk wP w4.heap.size 27 #[.slice X0 (List.length n) Xa] := (hk _ b_34).trans hNO
   have hOP : Blk wP w.heap.size 55 #[.int .i64 c, .slice (some ⟨g9, 0, none⟩) (List.length l) cap] := (hk _ b_34).trans hOO
   clear a0 a1 a2
   obtain ⟨a0, a1, -, -⟩ := blk2 hKP
   have a2 := hNP.cell 0
   clear p0 g0 zp hw hk hs
   refine hK.out _ _ (⟨a0, a1, a2⟩) (fun hHeld => ?_)
   clear hK K
   try simp only [layz]
   refine tkz 7 ?_
   try simp only [layz]
   refine wpAnyH_done b_31 ?_ _
   refine NoPanic.normal ?_
   clear a0 a1 a2
   go_wp2
   obtain ⟨o0, o1, -, -⟩ := blk2 hOP
   have p0 := hPP.cell 0
   refine bodyPost_ret (v := .tuple #[.agg #[.int .i64 c, .slice (some ⟨g9, 0, none⟩) (List.length l) cap], .agg #[.slice X0 (List.length n) Xa], .int .i64 (40 + y)]) (by simp [results, Try.results98, go_sem, o0, o1, p0]) rfl ?_
   exact ⟨⟨_, cap, (c, l), [.slice X0 (List.length n) Xa], n, _, rfl, GP.out.rdI.mono b_34 GP.out.rdI.1 (Nat.le_refl _), ⟨hcl, hci⟩, QP.out.mono b_34 QP.out.1 (Nat.le_refl _), hnb, by omega, by omega⟩, Dr.below DP.out b_34 (Nat.le_refl _)⟩
  | true =>
   have HC5 : Hid (∀ V, Dr (w.heap.size + 1 + 1) w6 V → V.cell? ⟨w2.heap.size, 0, none⟩ = some (.int .i64 c) ∧ V.cell? ⟨w2.heap.size, 1, none⟩ = some (.slice (some ⟨g9, 0, none⟩) (List.length l) cap)) := fun V hV => by
    obtain ⟨a0, a1, -, -⟩ := blk2 (Dr.blk hV hK6 b_34)
    exact ⟨a0, a1⟩
   go_wp2_with fail
   refine wp_region_noPanic ?_
   refine wp_region_held_drew (S := (fun V => V.cell? ⟨w2.heap.size, 0, none⟩ = some (.int .i64 c) ∧ V.cell? ⟨w2.heap.size, 1, none⟩ = some (.slice (some ⟨g9, 0, none⟩) (List.length l) cap))) b_31 ?_ (fun hHeld => ?_)
   ·exact HC5.out _ (Dr.drew (Dr.refl _ _))
   refine tkz4 0 2 3 1 ?_
   try simp only [layz]
   refine tkz2 4 5 ?_
   try simp only [layz]
   refine rz1 6 (fun K hK => ?_)
   go_simp
   go_at_call 69
   refine Calls.mono (C_spec_l1Below _ (w.heap.size + 1 + 1) (List.length l : Int) (cuz hc6) b_34 (by have := Ty.bulk_len hcl; omega)) ?_
   rintro e w7 ⟨hd7, hc7, y, rfl, hy0, hy1⟩
   obtain ⟨E7, z7⟩ := ez w6 hd7
   obtain ⟨m, rfl⟩ : ∃ m : Nat, y = m := ⟨y.toNat, by omega⟩
   have hm : m < List.length l := by omega
   have i1 : (0 : Int) ≤ (m : Int) := by omega
   have i2 : (m : Int) < (List.length l : Int) := by omega
   have G7 := Lib.hid (G6.out.dr ((drz E7) : Dr (w.heap.size + 1 + 1) w6 w7) b_34)
   obtain ⟨g8, ds, hA8, -, hcell, -, -, hrd0, -⟩ := G7.out.at hm
   simp only [Option.some.injEq, Addr.mk.injEq, and_true] at hA8
   subst hA8
   obtain ⟨Y0, Ya, Y1, Yb, Y2, Yc, rfl, eg0, -⟩ := rd_CacheEntry hrd0
   have yr : (Ty.sl .str).rd w7 [.slice Y0 (List.length l[m].1.1) Ya] l[m].1.1 := rd_pr_head eg0
   have yb : Ty.bulk (.sl .str) l[m].1.1 ≤ 5000 := by have h1 := Ty.bulk_at hcl hm; have h2 := name_of_data_bulk l[m].1; have h3 : Ty.bulk tCacheEntry l[m] = Ty.bulk tData l[m].1 + 0 := rfl; omega
   have e0 : w7.cell? ⟨g9, m * 6, none⟩ = some (.slice Y0 (List.length l[m].1.1) Ya) := by simpa [Ty.sz] using hcell 0 b_33
   clear hcell hrd0 eg0
   generalize l[m].1.1 = q9 at e0 yr yb
   have hwm := Lib.hid hm
   clear hm
   clear hd7
   refine hK.out _ _ (HC5.out _ (drz E7)) (fun hHeld => ?_)
   clear hK K
   try simp only [layz]
   refine tkz3 7 8 9 ?_
   try simp only [layz]
   refine rz1 10 (fun K hK => ?_)
   go_simp
   refine hK.out _ _ (HC5.out _ (drz E7)) (fun hHeld => ?_)
   clear hK K
   try simp only [layz]
   refine rz1 11 (fun K hK => ?_)
   go_simp
   go_at_call 73
   refine Calls.mono (C_spec_l4Copy _ _ q9 yr (by have := Ty.bulk_len yb; omega)) ?_
   rintro e w8 ⟨cs8, fp8, rfl, how8, hfr8, hb8⟩
   obtain ⟨E8, z8⟩ := ez w7 (Dr.of hb8 (w.heap.size + 1 + 1))
   have hc8 : CurT w8 (w.heap.size + 1 + 1) := Cur.below (cuz hc7) hb8
   obtain ⟨M8, cm, rfl⟩ := Ty.ow_slv how8
   have Q8 := RdI.of_owF how8 hfr8 (Nat.le_refl _)
   clear how8 hfr8
   clear hb8
   refine hK.out _ _ (HC5.out _ (drz (E7.trans E8))) (fun hHeld => ?_)
   clear hK K
   try simp only [layz]
   refine rz1 12 (fun K hK => ?_)
   have F8 : Dr (w.heap.size + 1 + 1) w6 w8 := ((drz E7) : Dr (w.heap.size + 1 + 1) w6 w7).trans E8
   have hO8 := Dr.blk F8 hO6 b_34
   have hP8 := Dr.blk F8 hP6 b_34
   have hK8 := Dr.blk F8 hK6 b_34
   have hN8 := Dr.blk F8 hN6 b_34
   have G8 := Lib.hid (G6.out.dr F8 b_34)
   have D8 := D6.out.trans F8
   have n0 := hN8.cell 0
   have g0 : w8.frozen? ⟨w4.heap.size, 0, none⟩ = false := hN8.f1
   have zn := hN8.lt
   go_simp
   refine abs_world (fun w9 hw => ?_)
   have hk : ∀ q, q ≠ w4.heap.size → w9.heap[q]? = w8.heap[q]? := fun q hq => by rw [hw, Below.heap_setCell _ _ _ _ hq]
   have hs : w8.heap.size ≤ w9.heap.size := by rw [hw, World.size_setCell]; exact Nat.le_refl _
   have hN9 : Blk w9 w4.heap.size 27 #[.slice M8 (List.length q9) cm] := by rw [hw]; exact hN8.set_ 0 _
   have D9 := Lib.hid (show Dr (w.heap.size + 1 + 1) w w9 by rw [hw]; exact Dr.set D8 (.inr b_30) _)
   have hc9 : CurT w9 (w.heap.size + 1 + 1) := by rw [hw]; exact Cur.far hc8 b_30 _
   have hO9 : Blk w9 w.heap.size 55 #[.int .i64 0, .slice none 0 0] := (hk _ b_34).trans hO8
   have hP9 : Blk w9 (w.heap.size + 1) 27 #[.slice none 0 0] := (hk _ b_34).trans hP8
   have hK9 : Blk w9 w2.heap.size 55 #[.int .i64 c, .slice (some ⟨g9, 0, none⟩) (List.length l) cap] := (hk _ b_34).trans hK8
   have G9 := Lib.hid (G8.out.keep hs (fun q h1 h2 h3 => hk q (fun e => h3 (by rw [e]; simp))))
   have QN9 := Lib.hid (Q8.keep hs (fun q h1 h2 => hk q b_34))
   obtain ⟨a0, a1, -, -⟩ := blk2 hK9
   clear n0 g0 zn hw hk hs F8 D8 G8 hO8 hP8 hK8 hN8 G6 D6 hO6 hP6 hK6 hN6 hnb
   refine hK.out _ _ (⟨a0, a1⟩) (fun hHeld => ?_)
   clear hK K
   try simp only [layz]
   refine wpAnyH_done b_31 ?_ _
   refine NoPanic.normal ?_
   clear a0 a1
   have hnb := yb
   go_wp2_with fail
   have HC6 : Hid (∀ V, Dr (w.heap.size + 1 + 1) w9 V → V.cell? ⟨w2.heap.size, 0, none⟩ = some (.int .i64 c) ∧ V.cell? ⟨w2.heap.size, 1, none⟩ = some (.slice (some ⟨g9, 0, none⟩) (List.length l) cap) ∧ V.cell? ⟨w4.heap.size, 0, none⟩ = some (.slice M8 (List.length q9) cm)) := fun V hV => by
    obtain ⟨a0, a1, -, -⟩ := blk2 (Dr.blk hV hK9 b_34)
    exact ⟨a0, a1, (Dr.blk hV hN9 b_34).cell 0⟩
   refine wp_region_noPanic ?_
   refine wp_region_held_drew (S := (fun V => V.cell? ⟨w2.heap.size, 0, none⟩ = some (.int .i64 c) ∧ V.cell? ⟨w2.heap.size, 1, none⟩ = some (.slice (some ⟨g9, 0, none⟩) (List.length l) cap) ∧ V.cell? ⟨w4.heap.size, 0, none⟩ = some (.slice M8 (List.length q9) cm))) b_31 ?_ (fun hHeld => ?_)
   ·exact HC6.out _ (Dr.drew (Dr.refl _ _))
   refine tkz3 0 1 2 ?_
   try simp only [layz]
   refine rz1 3 (fun K hK => ?_)
   go_simp
   go_at_call 69
   refine Calls.mono (C_spec_l1Below _ (w.heap.size + 1 + 1) 60 (cuz hc9) b_33 b_33) ?_
   rintro e w10 ⟨hd10, hc10, y, rfl, hy0, hy1⟩
   obtain ⟨E10, z10⟩ := ez w9 hd10
   have hwk : IntKind.i64.wrap (40 + y) = 40 + y := IntWalk.i64_in _ b_34
   clear hd10
   refine hK.out _ _ (HC6.out _ (drz E10)) (fun hHeld => ?_)
   clear hK K
   try simp only [layz]
   refine tkz 4 ?_
   try simp only [layz]
   refine rz1 5 (fun K hK => ?_)
   have F := ((drz E10) : Dr (w.heap.size + 1 + 1) w9 w10)
   have hO10 := Dr.blk F hO9 b_34
   have hP10 := Dr.blk F hP9 b_34
   have hK10 := Dr.blk F hK9 b_34
   have hN10 := Dr.blk F hN9 b_34
   have G10 := Lib.hid (G9.out.dr F b_34)
   have QN10 := Lib.hid (QN9.out.dr F b_34)
   have D10 := D9.out.trans F
   obtain ⟨p0, p1, g0, g1⟩ := blk2 hO10
   have zp := hO10.lt
   go_simp
   refine abs_world (fun wO hw => ?_)
   obtain ⟨hOO, hk, hs, -, F⟩ := stored2 (v0 := .int .i64 c) (v1 := .slice (some ⟨g9, 0, none⟩) (List.length l) cap) hO10 hw
   have DOO := Lib.hid (F (w.heap.size + 1 + 1) w b_34 D10)
   have GO := Lib.hid (G10.out.keep hs (fun q h1 h2 h3 => hk q b_34))
   have QO := Lib.hid (QN10.out.keep hs (fun q h1 h2 => hk q b_34))
   have hKO : Blk wO w2.heap.size 55 #[.int .i64 c, .slice (some ⟨g9, 0, none⟩) (List.length l) cap] := (hk _ b_34).trans hK10
   have hNO : Blk wO w4.heap.size 27 #[.slice M8 (List.length q9) cm] := (hk _ b_34).trans hN10
   have hPO : Blk wO (w.heap.size + 1) 27 #[.slice none 0 0] := (hk _ b_34).trans hP10
   obtain ⟨a0, a1, -, -⟩ := blk2 hKO
   have a2 := hNO.cell 0
   clear F
   clear p0 p1 g0 g1 zp hw hk hs F
   refine hK.out _ _ (⟨a0, a1, a2⟩) (fun hHeld => ?_)
   clear hK K
   try simp only [layz]
   refine rz1 6 (fun K hK => ?_)
   have p0 := hPO.cell 0
   have g0 : wO.frozen? ⟨w.heap.size + 1, 0, none⟩ = false := hPO.f1
   have zp := hPO.lt
   go_simp
   refine abs_world (fun wP hw => ?_)
   have hPP : Blk wP (w.heap.size + 1) 27 #[.slice M8 (List.length q9) cm] := by rw [hw]; exact hPO.set_ 0 _
   have hk : ∀ q, q ≠ w.heap.size + 1 → wP.heap[q]? = wO.heap[q]? := fun q hq => by rw [hw, Below.heap_setCell _ _ _ _ hq]
   have hs : wO.heap.size ≤ wP.heap.size := by rw [hw, World.size_setCell]; exact Nat.le_refl _
   have DP := Lib.hid (show Dr (w.heap.size + 1 + 1) w wP by rw [hw]; exact Dr.set DOO.out (.inr b_30) _)
   have GP := Lib.hid (GO.out.keep hs (fun q h1 h2 h3 => hk q b_34))
   have QP := Lib.hid (QO.out.keep hs (fun q h1 h2 => hk q b_34))
   have hKP : Blk wP w2.heap.size 55 #[.int .i64 c, .slice (some ⟨g9, 0, none⟩) (List.length l) cap] := (hk _ b_34).trans hKO
   have hNP : Blk wP w4.heap.size 27 #[.slice M8 (List.length q9) cm] := (hk _ b_34).trans hNO
   have hOP : Blk wP w.heap.size 55 #[.int .i64 c, .slice (some ⟨g9, 0, none⟩) (List.length l) cap] := (hk _ b_34).trans hOO
   clear a0 a1 a2
   obtain ⟨a0, a1, -, -⟩ := blk2 hKP
   have a2 := hNP.cell 0
   clear p0 g0 zp hw hk hs
   refine hK.out _ _ (⟨a0, a1, a2⟩) (fun hHeld => ?_)
   clear hK K
   try simp only [layz]
   refine tkz 7 ?_
   try simp only [layz]
   refine wpAnyH_done b_31 ?_ _
   refine NoPanic.normal ?_
   clear a0 a1 a2
   go_wp2
   obtain ⟨o0, o1, -, -⟩ := blk2 hOP
   have p0 := hPP.cell 0
   refine bodyPost_ret (v := .tuple #[.agg #[.int .i64 c, .slice (some ⟨g9, 0, none⟩) (List.length l) cap], .agg #[.slice M8 (List.length q9) cm], .int .i64 (40 + y)]) (by simp [results, Try.results98, go_sem, o0, o1, p0]) rfl ?_
   exact ⟨⟨_, cap, (c, l), [.slice M8 (List.length q9) cm], q9, _, rfl, GP.out.rdI.mono b_34 GP.out.rdI.1 (Nat.le_refl _), ⟨hcl, hci⟩, QP.out.mono b_34 QP.out.1 (Nat.le_refl _), hnb, by omega, by omega⟩, Dr.below DP.out b_34 (Nat.le_refl _)⟩
 ·have i0 : ¬ ((0 : Int) < (List.length l : Int)) := by omega
  go_wp2_with fail
  clear k0 k1
  have HC6 : Hid (∀ V, Dr (w.heap.size + 1 + 1) w5 V → V.cell? ⟨w2.heap.size, 0, none⟩ = some (.int .i64 c) ∧ V.cell? ⟨w2.heap.size, 1, none⟩ = some (.slice A (List.length l) cap) ∧ V.cell? ⟨w4.heap.size, 0, none⟩ = some (.slice X0 (List.length n) Xa)) := fun V hV => by
   obtain ⟨a0, a1, -, -⟩ := blk2 (Dr.blk hV hK5 b_34)
   exact ⟨a0, a1, (Dr.blk hV hN5 b_34).cell 0⟩
  refine wp_region_noPanic ?_
  refine wp_region_held_drew (S := (fun V => V.cell? ⟨w2.heap.size, 0, none⟩ = some (.int .i64 c) ∧ V.cell? ⟨w2.heap.size, 1, none⟩ = some (.slice A (List.length l) cap) ∧ V.cell? ⟨w4.heap.size, 0, none⟩ = some (.slice X0 (List.length n) Xa))) b_31 ?_ (fun hHeld => ?_)
  ·exact HC6.out _ (Dr.drew (Dr.refl _ _))
  refine tkz3 0 1 2 ?_
  try simp only [layz]
  refine rz1 3 (fun K hK => ?_)
  go_simp
  go_at_call 69
  refine Calls.mono (C_spec_l1Below _ (w.heap.size + 1 + 1) 60 (cuz hc5) b_33 b_33) ?_
  rintro e w6 ⟨hd6, hc6, y, rfl, hy0, hy1⟩
  obtain ⟨E6, z6⟩ := ez w5 hd6
  have hwk : IntKind.i64.wrap (40 + y) = 40 + y := IntWalk.i64_in _ b_34
  clear hd6
  refine hK.out _ _ (HC6.out _ (drz E6)) (fun hHeld => ?_)
  clear hK K
  try simp only [layz]
  refine tkz 4 ?_
  try simp only [layz]
  refine rz1 5 (fun K hK => ?_)
  have F := ((drz E6) : Dr (w.heap.size + 1 + 1) w5 w6)
  have hO6 := Dr.blk F hO5 b_34
  have hP6 := Dr.blk F hP5 b_34
  have hK6 := Dr.blk F hK5 b_34
  have hN6 := Dr.blk F hN5 b_34
  have G6 := Lib.hid (G5.out.dr F b_34)
  have QN6 := Lib.hid (QN5.out.dr F b_34)
  have D6 := D5.out.trans F
  obtain ⟨p0, p1, g0, g1⟩ := blk2 hO6
  have zp := hO6.lt
  go_simp
  refine abs_world (fun wO hw => ?_)
  obtain ⟨hOO, hk, hs, -, F⟩ := stored2 (v0 := .int .i64 c) (v1 := .slice A (List.length l) cap) hO6 hw
  have DOO := Lib.hid (F (w.heap.size + 1 + 1) w b_34 D6)
  have GO := Lib.hid (G6.out.keep hs (fun q h1 h2 h3 => hk q b_34))
  have QO := Lib.hid (QN6.out.keep hs (fun q h1 h2 => hk q b_34))
  have hKO : Blk wO w2.heap.size 55 #[.int .i64 c, .slice A (List.length l) cap] := (hk _ b_34).trans hK6
  have hNO : Blk wO w4.heap.size 27 #[.slice X0 (List.length n) Xa] := (hk _ b_34).trans hN6
  have hPO : Blk wO (w.heap.size + 1) 27 #[.slice none 0 0] := (hk _ b_34).trans hP6
  obtain ⟨a0, a1, -, -⟩ := blk2 hKO
  have a2 := hNO.cell 0
  clear F
  clear p0 p1 g0 g1 zp hw hk hs F
  refine hK.out _ _ (⟨a0, a1, a2⟩) (fun hHeld => ?_)
  clear hK K
  try simp only [layz]
  refine rz1 6 (fun K hK => ?_)
  have p0 := hPO.cell 0
  have g0 : wO.frozen? ⟨w.heap.size + 1, 0, none⟩ = false := hPO.f1
  have zp := hPO.lt
  go_simp
  refine abs_world (fun wP hw => ?_)
  have hPP : Blk wP (w.heap.size + 1) 27 #[.slice X0 (List.length n) Xa] := by rw [hw]; exact hPO.set_ 0 _
  have hk : ∀ q, q ≠ w.heap.size + 1 → wP.heap[q]? = wO.heap[q]? := fun q hq => by rw [hw, Below.heap_setCell _ _ _ _ hq]
  have hs : wO.heap.size ≤ wP.heap.size := by rw [hw, World.size_setCell]; exact Nat.le_refl _
  have DP := Lib.hid (show Dr (w.heap.size + 1 + 1) w wP by rw [hw]; exact Dr.set DOO.out (.inr b_30) _)
  have GP := Lib.hid (GO.out.keep hs (fun q h1 h2 h3 => hk q b_34))
  have QP := Lib.hid (QO.out.keep hs (fun q h1 h2 => hk q b_34))
  have hKP : Blk wP w2.heap.size 55 #[.int .i64 c, .slice A (List.length l) cap] := (hk _ b_34).trans hKO
  have hNP : Blk wP w4.heap.size 27 #[.slice X0 (List.length n) Xa] := (hk _ b_34).trans hNO
  have hOP : Blk wP w.heap.size 55 #[.int .i64 c, .slice A (List.length l) cap] := (hk _ b_34).trans hOO
  clear a0 a1 a2
  obtain ⟨a0, a1, -, -⟩ := blk2 hKP
  have a2 := hNP.cell 0
  clear p0 g0 zp hw hk hs
  refine hK.out _ _ (⟨a0, a1, a2⟩) (fun hHeld => ?_)
  clear hK K
  try simp only [layz]
  refine tkz 7 ?_
  try simp only [layz]
  refine wpAnyH_done b_31 ?_ _
  refine NoPanic.normal ?_
  clear a0 a1 a2
  go_wp2
  obtain ⟨o0, o1, -, -⟩ := blk2 hOP
  have p0 := hPP.cell 0
  refine bodyPost_ret (v := .tuple #[.agg #[.int .i64 c, .slice A (List.length l) cap], .agg #[.slice X0 (List.length n) Xa], .int .i64 (40 + y)]) (by simp [results, Try.results98, go_sem, o0, o1, p0]) rfl ?_
  exact ⟨⟨A, cap, (c, l), [.slice X0 (List.length n) Xa], n, _, rfl, GP.out.rdI.mono b_34 GP.out.rdI.1 (Nat.le_refl _), ⟨hcl, hci⟩, QP.out.mono b_34 QP.out.1 (Nat.le_refl _), hnb, by omega, by omega⟩, Dr.below DP.out b_34 (Nat.le_refl _)⟩
set_option maxRecDepth 100000 in
set_option maxHeartbeats 4000000 in
theorem C_spec_DrawCacheLookup (w : World) (v : Value) (b : List UInt8) (h : (Ty.sl .byte).rd w [v] b) :
  Calls Try.prog 21 #[v] w (fun e w' => (∃ A cap k cs n t, e = .returned (.tuple #[.agg #[.int .i64 k.1, .slice A (List.length k.2) cap], .agg cs.toArray, .int .i64 t]) ∧ tContentStore.rd w' [.int .i64 k.1, .slice A (List.length k.2) cap] k ∧ okSt 5000 k ∧ (Ty.sl .str).rd w' cs n ∧ Ty.bulk (.sl .str) n ≤ 5000 ∧ (-9223372036854775808 ≤ t ∧ t ≤ 9223372036854775807)) ∧ Below w.heap.size w w') := by
 obtain ⟨Ac, cc, rfl, _, _, _⟩ := Ty.rd_sl h
 go_enter Try.func21, Try.ntmps21
 go_wp2_with fail
 refine Calls.mono (C_spec_l12Pair _ _ b (Ty.rd_below b_6 h)) ?_
 rintro e w1 ⟨⟨A, cap, k, csn, n, t, rfl, qk, okk, qn, hnb, it⟩, hb⟩
 obtain ⟨c, l⟩ := k
 obtain ⟨An, cn, rfl⟩ := Ty.rd_slv qn.rd
 have hci : -9223372036854775808 ≤ c ∧ c ≤ 9223372036854775807 := okk.2
 have hO : Blk w1 w.heap.size 55 #[.int .i64 0, .slice none 0 0] := Blk.below ((Blk.new _ _ _).alloc _) hb b_26
 have hP : Blk w1 (w.heap.size + 1) 27 #[.slice none 0 0] := by
  have := Blk.new (w.alloc (.cells #[.int .i64 0, .slice none 0 0] 55)) 27 #[.slice none 0 0]
  simp only [World.size_alloc] at this
  exact Blk.below this hb b_26
 have hB : Below w.heap.size w w1 := bel_trans b_6 hb
 have z1 := hb.size
 simp only [World.size_alloc] at z1 qk qn
 obtain ⟨o0, o1, g0, g1⟩ := blk2 hO
 have p0 := hP.cell 0
 have r0 : w1.frozen? ⟨w.heap.size + 1, 0, none⟩ = false := hP.f1
 have zo := hO.lt
 have zp := hP.lt
 have QK := Lib.hid (((qk.set (p := ⟨w.heap.size, 0, none⟩) (.inl b_30) (.int .i64 c)).set (p := ⟨w.heap.size, 1, none⟩) (.inl b_30) (.slice A (List.length l) cap)).set (p := ⟨w.heap.size + 1, 0, none⟩) (.inl b_30) (.slice An (List.length n) cn)).rd
 have QN := Lib.hid (((qn.set (p := ⟨w.heap.size, 0, none⟩) (.inl b_30) (.int .i64 c)).set (p := ⟨w.heap.size, 1, none⟩) (.inl b_30) (.slice A (List.length l) cap)).set (p := ⟨w.heap.size + 1, 0, none⟩) (.inl b_30) (.slice An (List.length n) cn)).rd
 clear qk qn hb
 go_wp2
 refine bodyPost_ret (v := .tuple #[.agg #[.int .i64 c, .slice A (List.length l) cap], .agg #[.slice An (List.length n) cn], .int .i64 t]) (by simp [results, Try.results21, go_sem, o0, o1, p0, g0, g1, r0, zo, zp]) rfl ?_
 exact ⟨⟨A, cap, (c, l), _, n, t, rfl, ⟨[_], [_], rfl, ⟨rfl, hci⟩, QK.out⟩, okk, QN.out, hnb, it⟩, bel_set (bel_set (bel_set hB b_30 _) b_30 _) b_30 _⟩
end Go.Proofs.Ytldgbnlcnlfmeaa
