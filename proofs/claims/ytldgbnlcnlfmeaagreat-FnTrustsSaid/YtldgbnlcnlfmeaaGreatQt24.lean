/- Texts of this claim, merged by a program: Rin. -/
import Derived.Test.YtldgbnlcnlfmeaaGreatQtP
import Derived.Test.YtldgbnlcnlfmeaaGreatQt5
import Derived.Test.YtldgbnlcnlfmeaaGreatQt23
import Derived.Deep.RegionHeld3
namespace Go.Proofs.YtldgbnlcnlfmeaaGreat
open Go.RowKit
set_option linter.unusedVariables false
set_option linter.unusedSimpArgs false
set_option maxHeartbeats 4000000 in
theorem C_spec_AddKeyR (w : World) (v : Value) (x : List (Ty.D tKey)) (cs2 : List Value) (q : Ty.D tKey) (h1 : (Ty.sl tKey).rd w [v] x) (h2 : Ty.rd w tKey cs2 q) (s0 : Ty.bulk (.sl tKey) x ≤ 1048576) (s1 : Ty.bulk tKey q ≤ 1048576) :
  Calls Tryz.prog 40 #[v, .agg cs2.toArray] w (fun e w' => ∃ A c, e = .returned (.tuple #[.slice A (List.length (f0_AddKey x q)) c, .bool (f1_AddKey x q)]) ∧ GRow tKey w.heap.size [] w' 68 (.slice A (List.length (f0_AddKey x q)) c) (f0_AddKey x q) ∧ Below w.heap.size w w') := by
 obtain ⟨Aa0, ca0, rfl, sag0, sag1⟩ := rd_Key h2
 have hxl := Ty.bulk_len s0
 have hbk2 : q.1.length ≤ 1000000000000 := by
  have h1 : Ty.bulk (.sl .str) q.1 + 0 ≤ 1048576 := s1
  have := Ty.bulk_len (e := .str) (x := q.1) (n := 1048576) b_37
  omega
 have hF0 : f0_AddKey x q = if f_ValidKeys (x ++ [q]) then x ++ [q] else x := rfl
 have hF1 : f1_AddKey x q = f_ValidKeys (x ++ [q]) := rfl
 generalize f0_AddKey x q = F0 at hF0 ⊢
 generalize f1_AddKey x q = F1 at hF1 ⊢
 have HF0 := Lib.hid hF0
 have HF1 := Lib.hid hF1
 clear hF0 hF1
 have HS : Hid (∀ W, Below (w.alloc (.cells #[.slice Aa0 (List.length q.1) ca0, .int .i64 q.2] 68)).heap.size (w.alloc (.cells #[.slice Aa0 (List.length q.1) ca0, .int .i64 q.2] 68)) W →
   Below w.heap.size w W ∧ W.cell? ⟨w.heap.size, 0, none⟩ = some (.slice Aa0 (List.length q.1) ca0) ∧ W.cell? ⟨w.heap.size, 1, none⟩ = some (.int .i64 q.2)) := fun W hW =>
  ⟨bel_trans b_10 hW, (hW.cell b_30).trans (cell_new w _ _ 0 rfl), (hW.cell b_30).trans (cell_new w _ _ 1 rfl)⟩
 have hv0 : Below (w.alloc (.cells #[.slice Aa0 (List.length q.1) ca0, .int .i64 q.2] 68)).heap.size (w.alloc (.cells #[.slice Aa0 (List.length q.1) ca0, .int .i64 q.2] 68)) (w.alloc (.cells #[.slice Aa0 (List.length q.1) ca0, .int .i64 q.2] 68)) := Below.refl _ _
 go_enter Tryz.func40, Tryz.ntmps40
 go_wp2_with fail
 set_option maxRecDepth 100000 in go_region_held3 (fun W => Below w.heap.size w W ∧ W.cell? ⟨w.heap.size, 0, none⟩ = some (.slice Aa0 (List.length q.1) ca0) ∧ W.cell? ⟨w.heap.size, 1, none⟩ = some (.int .i64 q.2)) (first | (exact hz) | (exact HS.out _ b_10))
  (first
   | (go_at_call 99; (with_reducible refine (C_spec_l9Copy _ _ x (Ty.rd_below (bel_trans (bel_alloc (Below.refl _ _) _) b_10) h1) (Nat.le_trans s0 b_36)).mono ?_); rintro e w1 ⟨v1, rfl, hr1, hb1⟩; have HR1 := Lib.hid hr1; have hv1 : Below (w.alloc (.cells #[.slice Aa0 (List.length q.1) ca0, .int .i64 q.2] 68)).heap.size (w.alloc (.cells #[.slice Aa0 (List.length q.1) ca0, .int .i64 q.2] 68)) w1 := bel_trans b_10 hb1)
   | (go_at_call 57; (with_reducible refine (C_spec_l4Copy _ _ q.1 (Ty.rd_below (bel_trans (bel_alloc (Below.refl _ _) _) b_10) sag0) hbk2).mono ?_); rintro e w2 ⟨cs2, fp2, rfl, how2, hfr2, hb2⟩; obtain ⟨A2, c2, rfl⟩ := Ty.ow_slv how2; have hv2 : Below (w.alloc (.cells #[.slice Aa0 (List.length q.1) ca0, .int .i64 q.2] 68)).heap.size (w.alloc (.cells #[.slice Aa0 (List.length q.1) ca0, .int .i64 q.2] 68)) w2 := bel_trans b_10 hb2)
   | ((refine step_append_drow b_39 _ _ 24 b_39 w1 (w.heap.size + 1) 68 info_Key rfl Tryz.underlying24 _ _ x [q] b_39 b_39 (HR1.out.mono (by simp only [size_drewN, World.size_drew, World.size_alloc]; omega)) (bel_alloc hb2 _) (Src.litE 68 (ow_Key_mk how2 sag1) hfr2 b_27) (by rw [List.length_singleton]; omega) (by rw [List.length_singleton]; unfold maxLen; omega) (by have := hv1.size; simp only [World.size_alloc] at this; omega) ?_); intro v' w' hr' hg'; have hq := HS.out _ (bel_alloc hv2 (.cells #[.slice A2 (List.length q.1) c2, .int .i64 q.2] 68)); have hro := HR1.out.block; simp only [size_drewN, World.size_drew, World.size_alloc] at hro; have hne : some w.heap.size ≠ v1.ownBlock := fun e => (by have := (hro _ e.symm).1; omega); have hz : Below w.heap.size w w' ∧ w'.cell? ⟨w.heap.size, 0, none⟩ = some (.slice Aa0 (List.length q.1) ca0) ∧ w'.cell? ⟨w.heap.size, 1, none⟩ = some (.int .i64 q.2) := ⟨bel_grown hq.1 hq.1.size hg' (fun g hg => (by have := (hro g hg).1; omega)), hg'.cell hq.2.1 hne, hg'.cell hq.2.2 hne⟩))
 have HR' := Lib.hid hr'
 clear hr'
 go_wp2_with fail
 refine (C_spec_ValidKeysG _ _ (x ++ [q]) HR'.out.rd).mono ?_
 rintro e w3 ⟨rfl, hb3⟩
 have hw3 : Below w.heap.size w w3 := bel_trans hz.1 hb3
 cases q0 : f_ValidKeys (x ++ [q])
 ·rw [q0] at HF0 HF1
  go_wp2_with fail
  refine (C_spec_l9Copy _ _ x (Ty.rd_below hw3 h1) (Nat.le_trans s0 b_36)).mono ?_
  rintro e w4 ⟨v4, rfl, hr4, hb4⟩
  obtain ⟨A4, c4, rfl⟩ := hr4.form
  have hg4 := GRow.ofDRow hr4
  clear hr4
  have hw4 : Below w.heap.size w w4 := bel_trans hw3 hb4
  go_wp2
  go_ret2
  have e0 : F0 = x := HF0.out
  have e1 : F1 = false := HF1.out
  subst e0; subst e1
  exact ⟨A4, c4, rfl, hg4.mono hw3.size, hw4⟩
 ·rw [q0] at HF0 HF1
  have hd4 := HR'.out.below hb3
  obtain ⟨A4, c4, rfl⟩ := hd4.form
  clear HR'
  go_wp2
  go_ret2
  have e0 : F0 = x ++ [q] := HF0.out
  have e1 : F1 = true := HF1.out
  subst e0; subst e1
  exact ⟨A4, c4, by first | rfl | simp, (GRow.ofDRow hd4).mono b_37, hw3⟩
def okKey (k : Ty.D tKey) : Prop := okAny k.1 ∧ -1 ≤ k.2 ∧ k.2 ≤ 2147483648
def okKeys (l : List (Ty.D tKey)) : Prop := 1 ≤ l.length ∧ l.length ≤ 8 ∧ ∀ k ∈ l, okKey k
theorem key_bulk {k : Ty.D tKey} (h : okKey k) : Ty.bulk tKey k ≤ 70 := by
 show Ty.bulk (.sl .str) k.1 + 0 ≤ 70
 have := any_bulk h.1; omega
theorem keys_bulk {l : List (Ty.D tKey)} (h : okKeys l) : Ty.bulk (.sl tKey) l ≤ 568 := by
 have : ∀ (l : List (Ty.D tKey)), (∀ k ∈ l, okKey k) → Ty.bulk (.sl tKey) l ≤ 71 * l.length := by
  intro l
  induction l with
  | nil => intro _; exact Nat.zero_le _
  | cons a l ih =>
   intro h
   have h1 := ih (fun p hp => h p (List.mem_cons_of_mem _ hp))
   have h2 := key_bulk (h a (List.mem_cons_self ..))
   have h3 := bulk_app (e := tKey) [a] l
   have h4 := bulk_one (e := tKey) a
   simp only [List.cons_append, List.nil_append] at h3
   rw [List.length_cons]
   omega
 have := this l h.2.2
 have := h.2.1
 omega
theorem okKeys.app {l : List (Ty.D tKey)} (h : okKeys l) (hl : l.length ≤ 7) {k : Ty.D tKey} (hk : okKey k) : okKeys (l ++ [k]) := by
 refine ⟨by simp, by simp; omega, fun p hp => ?_⟩
 rcases List.mem_append.1 hp with hp | hp
 ·exact h.2.2 p hp
 ·simp at hp; subst hp; exact hk
theorem okKeys.add {l : List (Ty.D tKey)} (h : okKeys l) (hl : l.length ≤ 7) {k : Ty.D tKey} (hk : okKey k) : okKeys (f0_AddKey l k) ∧ (f0_AddKey l k).length ≤ l.length + 1 := by
 unfold f0_AddKey
 split
 ·exact ⟨h.app hl hk, by simp⟩
 ·exact ⟨h, by omega⟩
theorem okKeys.set {l : List (Ty.D tKey)} (h : okKeys l) {k : Ty.D tKey} (hk : okKey k) (i : Nat) : okKeys (l.set i k) := by
 refine ⟨by rw [List.length_set]; exact h.1, by rw [List.length_set]; exact h.2.1, fun p hp => ?_⟩
 rcases List.mem_or_eq_of_mem_set hp with hp | rfl
 ·exact h.2.2 p hp
 ·exact hk
theorem ring4 {s : List UInt8} (h : s ∈ [[47, 97, 47, 107, 101, 121], [47, 98, 47, 107, 101, 121], [47, 110, 101, 119, 115, 47, 107, 101, 121], [47, 107, 101, 121, 47, 99]]) : okAny (pnS s).1 ∧ s.length ≤ 100 := by
 simp at h; rcases h with rfl | rfl | rfl | rfl <;> exact ⟨okAny.of _ b_36, by decide⟩
theorem ring2 : okKeys [((pnS [47, 107, 101, 121, 47, 97]).1, (100 : Int)), ((pnS [47, 107, 101, 121, 47, 98]).1, (101 : Int))] :=
 ⟨by decide, by decide, fun k hk => by simp at hk; rcases hk with rfl | rfl <;> exact ⟨okAny.of _ b_36, by decide, by decide⟩⟩
set_option maxRecDepth 100000 in
set_option maxHeartbeats 4000000 in
theorem C_spec_l9Ring (w : World) (B : Nat) (hc : CurT w B) :
  Calls Tryz.prog 113 #[pB B] w (RetDT B w (DrG tKey 68 w (fun l => okKeys l ∧ l.length ≤ 5))) := by
 have hB := hc.lt
 go_enter Tryz.func113, Tryz.ntmps113
 go_wp2_with fail
 refine Calls.mono (C_spec_l4Of _ [47, 107, 101, 121, 47, 97] b_36) ?_
 rintro e w1 ⟨cs1, fp1, rfl, how1, hfr1, hb1⟩
 obtain ⟨A1, c1, rfl⟩ := Ty.ow_slv how1
 have z1 := hb1.size
 have Q1 := RdI.of_owF how1 hfr1 (Nat.le_refl _)
 go_wp2_with fail
 refine Calls.mono (C_spec_l4Of _ [47, 107, 101, 121, 47, 98] b_36) ?_
 rintro e w2 ⟨cs2, fp2, rfl, how2, hfr2, hb2⟩
 obtain ⟨A2, c2, rfl⟩ := Ty.ow_slv how2
 have z2 := hb2.size
 have Q2 := RdI.of_owF how2 hfr2 (Nat.le_refl _)
 have P1 := Q1.below hb2
 have hw2 : Below w.heap.size w w2 := bel_trans hb1 hb2
 have HOK := Lib.hid ring2
 clear how1 how2 hfr1 hfr2 Q1
 generalize (pnS [47, 107, 101, 121, 47, 97]).1 = n1 at P1 HOK ⊢
 generalize (pnS [47, 107, 101, 121, 47, 98]).1 = n2 at Q2 HOK ⊢
 obtain ⟨w3, hw3⟩ : ∃ w3, w3 = w2.alloc (.cells #[.slice A1 (List.length n1) c1, .int .i64 100, .slice A2 (List.length n2) c2, .int .i64 101] 68) := ⟨_, rfl⟩
 have hb3 : Below w2.heap.size w2 w3 := by rw [hw3]; exact b_10
 have D3 : Dr B w w3 := Dr.of (bel_trans hw2 hb3) B
 have hc3 : CurT w3 B := Cur.below hc (bel_trans hw2 hb3)
 have HG3 : Hid (GRow tKey w.heap.size [] w3 68 (.slice (some ⟨w2.heap.size, 0, none⟩) 2 2) [(n1, (100 : Int)), (n2, (101 : Int))]) := Lib.hid (GRow.lit2 (ds1 := [.slice A1 (List.length n1) c1, .int .i64 100]) (ds2 := [.slice A2 (List.length n2) c2, .int .i64 101]) (by rw [hw3]; exact Blk.new _ _ _) (RdI.pr (P1.below hb3) (RdI.int b_36 (P1.below hb3).1)) (RdI.pr (Q2.below hb3) (RdI.int b_36 (Q2.below hb3).1)) b_37 b_37 b_37 b_37 b_37)
 have z3 := hb3.size
 clear P1 Q2 hb1 hb2 hb3 hw2
 go_wp2_with fail
 rw [← hw3]
 clear hw3
 refine Calls.mono (C_spec_l1Below _ B 4 b_14 b_36 b_36) ?_
 rintro e w4 ⟨hd4, hc4, x, rfl, hx0, hx1⟩
 have z4 := hd4.size
 have D4 : Dr B w w4 := D3.trans hd4
 have HG4 := Lib.hid (HG3.out.dr hd4 b_37)
 clear hd4 D3 HG3 hc3
 go_wp2
 go_loopw [3, 4] (fun v i wr => ∃ (k : Int) (A : Option Addr) (c : Nat) (l : List (Ty.D tKey)), v = .slice A (List.length l) c ∧ i = .int .i64 k ∧ 0 ≤ k ∧ k ≤ 3 ∧ (l.length : Int) ≤ 5 - k ∧ okKeys l ∧ CurT wr B ∧ Dr B w wr ∧ GRow tKey w.heap.size [] wr 68 (.slice A (List.length l) c) l) (fun _ i _ => (intOf i).toNat)
 case atStart => exact ⟨x, _, _, [(n1, (100 : Int)), (n2, (101 : Int))], rfl, rfl, hx0, by omega, (show (2 : Int) ≤ 5 - x by omega), HOK.out, hc4, D4, HG4.out⟩
 case round =>
  obtain ⟨k, A, c, l, rfl, rfl, hk0, hk3, hll, hol, hcr, hdr, hG⟩ := hrel
  have zr := hdr.size
  have HG := Lib.hid hG
  have HOL := Lib.hid hol
  have hlb := keys_bulk hol
  clear hG hol HG4 D4 hc4 HOK
  by_cases hlt : 0 < k
  ·go_wp2_with fail
   refine Calls.mono (C_spec_l1Str _ B _ [[47, 97, 47, 107, 101, 121], [47, 98, 47, 107, 101, 121], [47, 110, 101, 119, 115, 47, 107, 101, 121], [47, 107, 101, 121, 47, 99]] b_14 b_11 b_36 b_36) ?_
   rintro e w5 ⟨hd5, hc5, s, hs, rfl⟩
   have E5 : Dr B wr w5 := b_5
   have z5 := E5.size
   have hs4 := ring4 hs
   have HS := Lib.hid hs4.1
   have hsl := hs4.2
   clear hd5 hs hs4
   go_wp2_with fail
   refine Calls.mono (C_spec_l4Of _ s b_37) ?_
   rintro e w6 ⟨cs6, fp6, rfl, how6, hfr6, hb6⟩
   obtain ⟨A6, c6, rfl⟩ := Ty.ow_slv how6
   have Q6 := RdI.of_owF how6 hfr6 (Nat.le_refl _)
   have z6 := hb6.size
   have E6 : Dr B w5 w6 := Dr.of hb6 B
   have hc6 : CurT w6 B := Cur.below hc5 hb6
   generalize (pnS s).1 = n at Q6 HS ⊢
   clear how6 hfr6 hb6
   go_wp2_with fail
   refine Calls.mono (C_spec_l1Below _ B 8 b_14 b_36 b_36) ?_
   rintro e w7 ⟨hd7, hc7, y, rfl, hy0, hy1⟩
   have E7 : Dr B w6 w7 := b_5
   have z7 := E7.size
   have hv : IntKind.i64.wrap (100 + y) = 100 + y := IntWalk.i64_in _ b_37
   have F7 : Dr B wr w7 := E5.trans (E6.trans E7)
   have HG7 := Lib.hid (HG.out.dr F7 b_37)
   have Q7 := Q6.dr E7 b_37
   have hki : -9223372036854775808 ≤ 100 + y ∧ 100 + y ≤ 9223372036854775807 := ⟨by omega, by omega⟩
   have hkk : okKey (n, 100 + y) := ⟨HS.out, (show -1 ≤ 100 + y by omega), (show 100 + y ≤ 2147483648 by omega)⟩
   have hkb := key_bulk hkk
   have HADD := Lib.hid (HOL.out.add b_37 hkk)
   have hd7r : tKey.rd w7 [.slice A6 (List.length n) c6, .int .i64 (100 + y)] (n, 100 + y) := ⟨[_], [_], rfl, Q7.rd, ⟨rfl, hki⟩⟩
   clear hd7 Q6 E5 E6 E7
   go_wp2_with fail
   refine Calls.mono (C_spec_AddKeyR _ _ l _ (n, 100 + y) HG7.out.rd hd7r b_37 b_37) ?_
   rintro e w8 ⟨A8, c8, rfl, hg8, hb8⟩
   have z8 := hb8.size
   have D8 : Dr B w w8 := (hdr.trans F7).then_ hb8
   have hc8 : CurT w8 B := Cur.below hc7 hb8
   have HG8 := Lib.hid (hg8.mono (lo' := w.heap.size) b_37)
   obtain ⟨r, hr⟩ : ∃ r, r = f0_AddKey l (n, 100 + y) := ⟨_, rfl⟩
   rw [← hr] at HG8 HADD ⊢
   have hadd := HADD.out
   clear hg8 hb8 hr
   go_wp2
   go_roundw
   case rel => exact ⟨k - 1, _, _, r, rfl, rfl, by omega, by omega, by have := hadd.2; omega, hadd.1, hc8, D8, HG8.out⟩
   case measure => simp [intOf]; omega
  ·go_wp2
   go_ret
   exact ⟨hdr, hcr, _, l, _, rfl, HG.out, HOL.out, by omega⟩
set_option maxRecDepth 100000 in
set_option maxHeartbeats 4000000 in
theorem C_spec_l9Any (w : World) (B : Nat) (hc : CurT w B) :
  Calls Tryz.prog 61 #[pB B] w (RetDT B w (DrV tKey w okKeys)) := by
 have hB := hc.lt
 go_enter Tryz.func61, Tryz.ntmps61
 go_wp2_with fail
 refine Calls.mono (C_spec_l9Ring _ B b_14) ?_
 rintro e w1 ⟨hd1, hc1, A, l, c, rfl, hG, hok, hl5⟩
 have z1 := hd1.size
 have HG := Lib.hid hG
 have HOK := Lib.hid hok
 have h1l := hok.1
 clear hG hok
 go_wp2_with fail
 refine Calls.mono (C_spec_l1Below _ B 8 b_14 b_36 b_36) ?_
 rintro e w2 ⟨hd2, hc2, k, rfl, hk0, hk1⟩
 have z2 := hd2.size
 have D2 : Dr B w w2 := hd1.trans hd2
 have HG2 := Lib.hid (HG.out.dr hd2 hB)
 have hbl := HG.out.block
 clear hd1 hd2 HG hc1
 rcases (show k = 0 ∨ k = 1 ∨ k = 2 ∨ (k ≠ 0 ∧ k ≠ 1 ∧ k ≠ 2) by omega) with rfl | rfl | rfl | hk
 ·go_wp2_with fail
  refine Calls.mono (C_spec_l4Any _ B b_14) ?_
  rintro e w3 ⟨hd3, hc3, cs3, n, rfl, hQ3, hok3⟩
  obtain ⟨A3, c3, rfl⟩ := Ty.rd_slv hQ3.rd
  have E3 : Dr B w2 w3 := b_5
  have z3 := E3.size
  clear hd3
  go_wp2_with fail
  refine Calls.mono (C_spec_l3Word _ B b_14) ?_
  rintro e w4 ⟨hd4, hc4, s, rfl, hs0, hs1⟩
  have E4 : Dr B w3 w4 := b_5
  have z4 := E4.size
  have F4 : Dr B w2 w4 := E3.trans E4
  have D4 : Dr B w w4 := D2.trans F4
  have HG4 := Lib.hid (HG2.out.dr F4 hB)
  have Q4 := hQ3.dr E4 b_37
  have QK : RdI tKey w2.heap.size w3.heap.size w4 [.slice A3 (List.length n) c3, .int .i64 s] (n, s) := RdI.pr Q4 (RdI.int b_37 Q4.1)
  clear hd4 hQ3 Q4 E3 E4 HG2 hc2 hc3
  set_option maxRecDepth 100000 in go_wp2_with (at_builtin; go_loud (refine wpList_append_grow (e := tKey) rfl _ _ 24 rfl w.heap.size [] 68 info_Key rfl Tryz.underlying24 (.slice A (List.length l) c) _ l [(n, s)] b_39 b_39 (HG4.out.alloc _) (ASrc.lit (te := 68) (Blk.new _ _ _) (QK.alloc _) b_37 b_38 (fun q hq => .inl (by have := hbl q hq; omega))) ?_ ?_ ?_ ?_ ?_))
  case refine_1 => intro q hq; simp at hq
  case refine_2 => simp only [List.length_singleton]; omega
  case refine_3 => simp only [List.length_singleton]; unfold maxLen; omega
  case refine_4 => exact b_32
  intro v' w' hr' hg'
  have hbl4 := HG4.out.block
  have D5 : Dr B w w' := Dr.grown (D4.alloc _) hg' (fun q hq => (hbl4 q hq).1)
  have C5 : CurT w' B := Cur.grown (hc4.alloc _) hg' (fun q hq => by have := (hbl4 q hq).1; omega)
  have hok5 := HOK.out.app b_37 (k := (n, s)) ⟨hok3, hs0, hs1⟩
  obtain ⟨r, hr⟩ : ∃ r, r = l ++ [(n, s)] := ⟨_, rfl⟩
  rw [← hr] at hr' hok5
  clear hr
  obtain ⟨A5, c5, rfl⟩ := hr'.form
  have HR := Lib.hid hr'
  clear hr' hg' hbl hbl4 D4
  go_wp2
  go_ret
  exact ⟨D5, C5, _, r, _, rfl, HR.out.rdI, hok5⟩
 ·obtain ⟨g, ds, hA, hdl, hcell, hfr, hgb, hrd0, hsrc⟩ := HG2.out.at (k := 0) b_37
  obtain ⟨A0, c0, rfl, -, -⟩ := rd_Key hrd0
  subst hA
  have e0 : w2.cell? ⟨g, 0, none⟩ = some (.slice A0 (List.length l[0].1) c0) := by simpa [Ty.sz] using hcell 0 b_36
  have e1 : w2.cell? ⟨g, 1, none⟩ = some (.int .i64 l[0].2) := by simpa [Ty.sz] using hcell 1 b_36
  have i0 : (0 : Int) < (List.length l : Int) := by omega
  have hm0 := HOK.out.2.2 l[0] (List.getElem_mem _)
  have HSRC := Lib.hid hsrc
  have hbl2 := HG2.out.block
  clear hcell hfr hdl hrd0 hsrc hbl
  generalize l[0] = q0 at e0 e1 hm0 HSRC
  set_option maxRecDepth 100000 in go_wp2_with (at_builtin; go_loud (refine wpList_append_grow (e := tKey) rfl _ _ 24 rfl w.heap.size [] 68 info_Key rfl Tryz.underlying24 (.slice (some ⟨g, 0, none⟩) (List.length l) c) _ l [q0] b_39 b_39 (HG2.out.alloc _) (HSRC.out _ 68 _ _ (bel_alloc (Below.refl _ _) _) (Blk.new _ _ _)) ?_ ?_ ?_ ?_ ?_))
  case refine_1 => intro q hq; simp at hq
  case refine_2 => simp only [List.length_singleton]; omega
  case refine_3 => simp only [List.length_singleton]; unfold maxLen; omega
  case refine_4 => exact b_32
  intro v' w' hr' hg'
  have D5 : Dr B w w' := Dr.grown (D2.alloc _) hg' (fun q hq => (hbl2 q hq).1)
  have C5 : CurT w' B := Cur.grown (hc2.alloc _) hg' (fun q hq => by have := (hbl2 q hq).1; omega)
  have hok5 := HOK.out.app b_37 hm0
  obtain ⟨r, hr⟩ : ∃ r, r = l ++ [q0] := ⟨_, rfl⟩
  rw [← hr] at hr' hok5
  clear hr
  obtain ⟨A5, c5, rfl⟩ := hr'.form
  have HR := Lib.hid hr'
  clear hr' hg' hbl2 e0 e1
  go_wp2
  go_ret
  exact ⟨D5, C5, _, r, _, rfl, HR.out.rdI, hok5⟩
 ·go_wp2_with fail
  refine Calls.mono (C_spec_l1Int _ B _ [0, 101, 2147483647] b_14 b_12 b_36 b_36) ?_
  rintro e w3 ⟨hd3, hc3, s, hs, rfl⟩
  have E3 : Dr B w2 w3 := b_5
  have hw := mem_word hs b_36
  have D3 : Dr B w w3 := D2.trans E3
  have HG3 := HG2.out.dr E3 hB
  obtain ⟨g, ds, hA, hdl, hcell, hfr, hgb, hrd0, -⟩ := HG3.at (k := 0) b_37
  obtain ⟨A0, c0, rfl, -, -⟩ := rd_Key hrd0
  subst hA
  have e0 : w3.cell? ⟨g, 0, none⟩ = some (.slice A0 (List.length l[0].1) c0) := by simpa [Ty.sz] using hcell 0 b_36
  have e1 : w3.cell? ⟨g, 1, none⟩ = some (.int .i64 l[0].2) := by simpa [Ty.sz] using hcell 1 b_36
  have f1 := hfr 1
  have i0 : (0 : Int) < (List.length l : Int) := by omega
  have hm0 := HOK.out.2.2 l[0] (List.getElem_mem _)
  have HG5 := Lib.hid (HG3.setAt (k := 0) (j := 1) b_37 b_36 (.int .i64 s) (l[0].1, s) (fun W ds hd => by
   obtain ⟨A9, c9, rfl, h9, _⟩ := rd_Key hd
   exact ⟨[_], [_], rfl, h9, ⟨rfl, by omega⟩⟩))
  have hok5 := HOK.out.set (k := (l[0].1, s)) ⟨hm0.1, hw⟩ 0
  have C5 : CurT (w3.setCell ⟨g, 0 * tKey.sz + 1, none⟩ (.int .i64 s)) B := Cur.far hc3 b_34 _
  have D5 : Dr B w (w3.setCell ⟨g, 0 * tKey.sz + 1, none⟩ (.int .i64 s)) := Dr.set D3 (.inr b_34) _
  have hl5' : (l.set 0 (l[0].1, s)).length = l.length := List.length_set
  simp only [Ty.sz, Nat.zero_mul, Nat.zero_add] at C5 D5 HG5
  generalize l.set 0 (l[0].1, s) = r at HG5 hok5 hl5'
  rw [← hl5'] at HG5 ⊢
  clear hcell hfr hdl hrd0 hs hd3 HG3 hbl
  have HL5 := Lib.hid hl5'
  have i1 : (0 : Int) < (List.length r : Int) := by omega
  clear hl5'
  go_wp2
  go_ret
  exact ⟨D5, C5, _, r, _, rfl, HG5.out.rdI, hok5⟩
 ·have q0 : (k == 0) = false := by rw [beq_eq_false_iff_ne]; exact hk.1
  have q1 : (k == 1) = false := by rw [beq_eq_false_iff_ne]; exact hk.2.1
  have q2 : (k == 2) = false := by rw [beq_eq_false_iff_ne]; exact hk.2.2
  go_wp2
  go_ret
  exact ⟨D2, hc2, _, l, _, rfl, HG2.out.rdI, HOK.out⟩
end Go.Proofs.YtldgbnlcnlfmeaaGreat
