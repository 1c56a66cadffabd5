/- Texts of this claim, merged by a program: Rin Dky Dsw. -/
import Derived.Test.YtldgbnlcnlfmeaaGreatMk2
import Derived.Test.YtldgbnlcnlfmeaaGreatMk6
import Derived.Test.YtldgbnlcnlfmeaaGreatMk7
import Derived.Deep.RegionHeld3
/- Keys drawn. Printed by gen66.py. -/
namespace Go.Proofs.YtldgbnlcnlfmeaaGreat
open Go.RowKit
set_option linter.unusedVariables false
set_option linter.unusedSimpArgs false

set_option maxHeartbeats 4000000 in
theorem C_spec_AddKeyR (w : World) (v : Value) (x : List (Ty.D tKey)) (cs2 : List Value) (q : Ty.D tKey) (h1 : (Ty.sl tKey).rd w [v] x) (h2 : Ty.rd w tKey cs2 q) (s0 : Ty.bulk (.sl tKey) x ≤ 1048576) (s1 : Ty.bulk tKey q ≤ 1048576) :
    Calls Tryz.prog 40 #[v, .agg cs2.toArray] w (fun e w' => ∃ A c, e = .returned (.tuple #[.slice A (List.length (f0_AddKey x q)) c, .bool (f1_AddKey x q)]) ∧ GRow tKey w.heap.size [] w' 68 (.slice A (List.length (f0_AddKey x q)) c) (f0_AddKey x q) ∧ Below w.heap.size w w') := by
  obtain ⟨Aa0, ca0, rfl, sag0, sag1⟩ := rd_Key h2
  have hxl := Ty.bulk_len s0
  have hbk2 : q.1.length ≤ 1000000000000 := by
    have h1 : Ty.bulk (.sl .str) q.1 + 0 ≤ 1048576 := s1
    have := Ty.bulk_len (e := .str) (x := q.1) (n := 1048576) (by omega)
    omega
  have hF0 : f0_AddKey x q = if f_ValidKeys (x ++ [q]) then x ++ [q] else x := rfl
  have hF1 : f1_AddKey x q = f_ValidKeys (x ++ [q]) := rfl
  generalize f0_AddKey x q = F0 at hF0 ⊢
  generalize f1_AddKey x q = F1 at hF1 ⊢
  have HF0 := Lib.hid hF0
  have HF1 := Lib.hid hF1
  clear hF0 hF1
  have HS : Hid (∀ W, Below (w.alloc (.cells #[.slice Aa0 (List.length q.1) ca0, .int .i64 q.2] 68)).heap.size (w.alloc (.cells #[.slice Aa0 (List.length q.1) ca0, .int .i64 q.2] 68)) W →
      Below w.heap.size w W ∧ W.cell? ⟨w.heap.size, 0, none⟩ = some (.slice Aa0 (List.length q.1) ca0) ∧ W.cell? ⟨w.heap.size, 1, none⟩ = some (.int .i64 q.2)) := fun W hW =>
    ⟨bel_trans (by repeat' (first | (with_reducible exact Below.refl _ _) | (with_reducible assumption) | (with_reducible refine bel_set ?_ (by (try dsimp only); omega) _) | (with_reducible refine bel_alloc ?_ _) | (with_reducible refine bel_drewN ?_ _) | (with_reducible refine bel_drew ?_))) hW, (hW.cell (by simp only [World.size_alloc]; omega)).trans (cell_new w _ _ 0 rfl), (hW.cell (by simp only [World.size_alloc]; omega)).trans (cell_new w _ _ 1 rfl)⟩
  have hv0 : Below (w.alloc (.cells #[.slice Aa0 (List.length q.1) ca0, .int .i64 q.2] 68)).heap.size (w.alloc (.cells #[.slice Aa0 (List.length q.1) ca0, .int .i64 q.2] 68)) (w.alloc (.cells #[.slice Aa0 (List.length q.1) ca0, .int .i64 q.2] 68)) := Below.refl _ _
  go_enter Tryz.func40, Tryz.ntmps40
  go_wp2_with fail
  set_option maxRecDepth 100000 in go_region_held3 (fun W => Below w.heap.size w W ∧ W.cell? ⟨w.heap.size, 0, none⟩ = some (.slice Aa0 (List.length q.1) ca0) ∧ W.cell? ⟨w.heap.size, 1, none⟩ = some (.int .i64 q.2)) (first | (exact hz) | (exact HS.out _ (by repeat' (first | (with_reducible exact Below.refl _ _) | (with_reducible assumption) | (with_reducible refine bel_set ?_ (by (try dsimp only); omega) _) | (with_reducible refine bel_alloc ?_ _) | (with_reducible refine bel_drewN ?_ _) | (with_reducible refine bel_drew ?_)))))
    (first
      | (go_at_call 99; (with_reducible refine (C_spec_l9Copy _ _ x (Ty.rd_below (bel_trans (bel_alloc (Below.refl _ _) _) (by repeat' (first | (with_reducible exact Below.refl _ _) | (with_reducible assumption) | (with_reducible refine bel_set ?_ (by (try dsimp only); omega) _) | (with_reducible refine bel_alloc ?_ _) | (with_reducible refine bel_drewN ?_ _) | (with_reducible refine bel_drew ?_)))) h1) (Nat.le_trans s0 (by decide))).mono ?_); rintro e w1 ⟨v1, rfl, hr1, hb1⟩; have HR1 := Lib.hid hr1; have hv1 : Below (w.alloc (.cells #[.slice Aa0 (List.length q.1) ca0, .int .i64 q.2] 68)).heap.size (w.alloc (.cells #[.slice Aa0 (List.length q.1) ca0, .int .i64 q.2] 68)) w1 := bel_trans (by repeat' (first | (with_reducible exact Below.refl _ _) | (with_reducible assumption) | (with_reducible refine bel_set ?_ (by (try dsimp only); omega) _) | (with_reducible refine bel_alloc ?_ _) | (with_reducible refine bel_drewN ?_ _) | (with_reducible refine bel_drew ?_))) hb1)
      | (go_at_call 57; (with_reducible refine (C_spec_l4Copy _ _ q.1 (Ty.rd_below (bel_trans (bel_alloc (Below.refl _ _) _) (by repeat' (first | (with_reducible exact Below.refl _ _) | (with_reducible assumption) | (with_reducible refine bel_set ?_ (by (try dsimp only); omega) _) | (with_reducible refine bel_alloc ?_ _) | (with_reducible refine bel_drewN ?_ _) | (with_reducible refine bel_drew ?_)))) sag0) hbk2).mono ?_); rintro e w2 ⟨cs2, fp2, rfl, how2, hfr2, hb2⟩; obtain ⟨A2, c2, rfl⟩ := Ty.ow_slv how2; have hv2 : Below (w.alloc (.cells #[.slice Aa0 (List.length q.1) ca0, .int .i64 q.2] 68)).heap.size (w.alloc (.cells #[.slice Aa0 (List.length q.1) ca0, .int .i64 q.2] 68)) w2 := bel_trans (by repeat' (first | (with_reducible exact Below.refl _ _) | (with_reducible assumption) | (with_reducible refine bel_set ?_ (by (try dsimp only); omega) _) | (with_reducible refine bel_alloc ?_ _) | (with_reducible refine bel_drewN ?_ _) | (with_reducible refine bel_drew ?_))) hb2)
      | ((refine step_append_drow (by rfl) _ _ 24 (by rfl) w1 (w.heap.size + 1) 68 info_Key rfl Tryz.underlying24 _ _ x [q] (by rfl) (by rfl) (HR1.out.mono (by simp only [size_drewN, World.size_drew, World.size_alloc]; omega)) (bel_alloc hb2 _) (Src.litE 68 (ow_Key_mk how2 sag1) hfr2 (by first | rfl | simp only [World.size_alloc])) (by rw [List.length_singleton]; omega) (by rw [List.length_singleton]; unfold maxLen; omega) (by have := hv1.size; simp only [World.size_alloc] at this; omega) ?_); intro v' w' hr' hg'; have hq := HS.out _ (bel_alloc hv2 (.cells #[.slice A2 (List.length q.1) c2, .int .i64 q.2] 68)); have hro := HR1.out.block; simp only [size_drewN, World.size_drew, World.size_alloc] at hro; have hne : some w.heap.size ≠ v1.ownBlock := fun e => (by have := (hro _ e.symm).1; omega); have hz : Below w.heap.size w w' ∧ w'.cell? ⟨w.heap.size, 0, none⟩ = some (.slice Aa0 (List.length q.1) ca0) ∧ w'.cell? ⟨w.heap.size, 1, none⟩ = some (.int .i64 q.2) := ⟨bel_grown hq.1 hq.1.size hg' (fun g hg => (by have := (hro g hg).1; omega)), hg'.cell hq.2.1 hne, hg'.cell hq.2.2 hne⟩))
  have HR' := Lib.hid hr'
  clear hr'
  go_wp2_with fail
  refine (C_spec_ValidKeysG _ _ (x ++ [q]) HR'.out.rd).mono ?_
  rintro e w3 ⟨rfl, hb3⟩
  have hw3 : Below w.heap.size w w3 := bel_trans hz.1 hb3
  cases q0 : f_ValidKeys (x ++ [q])
  · rw [q0] at HF0 HF1
    go_wp2_with fail
    refine (C_spec_l9Copy _ _ x (Ty.rd_below hw3 h1) (Nat.le_trans s0 (by decide))).mono ?_
    rintro e w4 ⟨v4, rfl, hr4, hb4⟩
    obtain ⟨A4, c4, rfl⟩ := hr4.form
    have hg4 := GRow.ofDRow hr4
    clear hr4
    have hw4 : Below w.heap.size w w4 := bel_trans hw3 hb4
    go_wp2
    go_ret2
    have e0 : F0 = x := HF0.out
    have e1 : F1 = false := HF1.out
    subst e0; subst e1
    exact ⟨A4, c4, rfl, hg4.mono hw3.size, hw4⟩
  · rw [q0] at HF0 HF1
    have hd4 := HR'.out.below hb3
    obtain ⟨A4, c4, rfl⟩ := hd4.form
    clear HR'
    go_wp2
    go_ret2
    have e0 : F0 = x ++ [q] := HF0.out
    have e1 : F1 = true := HF1.out
    subst e0; subst e1
    exact ⟨A4, c4, by first | rfl | simp, (GRow.ofDRow hd4).mono (by omega), hw3⟩
/-- What any drawn key is; what any drawn keys are. -/
def okKey (k : Ty.D tKey) : Prop := okAny k.1 ∧ -1 ≤ k.2 ∧ k.2 ≤ 2147483648
def okKeys (l : List (Ty.D tKey)) : Prop := 1 ≤ l.length ∧ l.length ≤ 8 ∧ ∀ k ∈ l, okKey k
theorem key_bulk {k : Ty.D tKey} (h : okKey k) : Ty.bulk tKey k ≤ 70 := by
  show Ty.bulk (.sl .str) k.1 + 0 ≤ 70
  have := any_bulk h.1; omega
theorem keys_bulk {l : List (Ty.D tKey)} (h : okKeys l) : Ty.bulk (.sl tKey) l ≤ 568 := by
  have : ∀ (l : List (Ty.D tKey)), (∀ k ∈ l, okKey k) → Ty.bulk (.sl tKey) l ≤ 71 * l.length := by
    intro l
    induction l with
    | nil => intro _; exact Nat.zero_le _
    | cons a l ih =>
      intro h
      have h1 := ih (fun p hp => h p (List.mem_cons_of_mem _ hp))
      have h2 := key_bulk (h a (List.mem_cons_self ..))
      have h3 := bulk_app (e := tKey) [a] l
      have h4 := bulk_one (e := tKey) a
      simp only [List.cons_append, List.nil_append] at h3
      rw [List.length_cons]
      omega
  have := this l h.2.2
  have := h.2.1
  omega
theorem okKeys.app {l : List (Ty.D tKey)} (h : okKeys l) (hl : l.length ≤ 7) {k : Ty.D tKey} (hk : okKey k) : okKeys (l ++ [k]) := by
  refine ⟨by simp, by simp; omega, fun p hp => ?_⟩
  rcases List.mem_append.1 hp with hp | hp
  · exact h.2.2 p hp
  · simp at hp; subst hp; exact hk
theorem okKeys.add {l : List (Ty.D tKey)} (h : okKeys l) (hl : l.length ≤ 7) {k : Ty.D tKey} (hk : okKey k) : okKeys (f0_AddKey l k) ∧ (f0_AddKey l k).length ≤ l.length + 1 := by
  unfold f0_AddKey
  split
  · exact ⟨h.app hl hk, by simp⟩
  · exact ⟨h, by omega⟩
theorem okKeys.set {l : List (Ty.D tKey)} (h : okKeys l) {k : Ty.D tKey} (hk : okKey k) (i : Nat) : okKeys (l.set i k) := by
  refine ⟨by rw [List.length_set]; exact h.1, by rw [List.length_set]; exact h.2.1, fun p hp => ?_⟩
  rcases List.mem_or_eq_of_mem_set hp with hp | rfl
  · exact h.2.2 p hp
  · exact hk
theorem ring4 {s : List UInt8} (h : s ∈ [[47, 97, 47, 107, 101, 121], [47, 98, 47, 107, 101, 121], [47, 110, 101, 119, 115, 47, 107, 101, 121], [47, 107, 101, 121, 47, 99]]) : okAny (pnS s).1 ∧ s.length ≤ 100 := by
  simp at h; rcases h with rfl | rfl | rfl | rfl <;> exact ⟨okAny.of _ (by decide), by decide⟩
theorem ring2 : okKeys [((pnS [47, 107, 101, 121, 47, 97]).1, (100 : Int)), ((pnS [47, 107, 101, 121, 47, 98]).1, (101 : Int))] :=
  ⟨by decide, by decide, fun k hk => by simp at hk; rcases hk with rfl | rfl <;> exact ⟨okAny.of _ (by decide), by decide, by decide⟩⟩
set_option maxRecDepth 100000 in
set_option maxHeartbeats 4000000 in
theorem C_spec_l9Ring (w : World) (B : Nat) (hc : CurT w B) :
    Calls Tryz.prog 113 #[pB B] w (RetDT B w (DrG tKey 68 w (fun l => okKeys l ∧ l.length ≤ 5))) := by
  have hB := hc.lt
  go_enter Tryz.func113, Tryz.ntmps113
  go_wp2_with fail
  refine Calls.mono (C_spec_l4Of _ [47, 107, 101, 121, 47, 97] (by decide)) ?_
  rintro e w1 ⟨cs1, fp1, rfl, how1, hfr1, hb1⟩
  obtain ⟨A1, c1, rfl⟩ := Ty.ow_slv how1
  have z1 := hb1.size
  have Q1 := RdI.of_owF how1 hfr1 (Nat.le_refl _)
  go_wp2_with fail
  refine Calls.mono (C_spec_l4Of _ [47, 107, 101, 121, 47, 98] (by decide)) ?_
  rintro e w2 ⟨cs2, fp2, rfl, how2, hfr2, hb2⟩
  obtain ⟨A2, c2, rfl⟩ := Ty.ow_slv how2
  have z2 := hb2.size
  have Q2 := RdI.of_owF how2 hfr2 (Nat.le_refl _)
  have P1 := Q1.below hb2
  have hw2 : Below w.heap.size w w2 := bel_trans hb1 hb2
  have HOK := Lib.hid ring2
  clear how1 how2 hfr1 hfr2 Q1
  generalize (pnS [47, 107, 101, 121, 47, 97]).1 = n1 at P1 HOK ⊢
  generalize (pnS [47, 107, 101, 121, 47, 98]).1 = n2 at Q2 HOK ⊢
  obtain ⟨w3, hw3⟩ : ∃ w3, w3 = w2.alloc (.cells #[.slice A1 (List.length n1) c1, .int .i64 100, .slice A2 (List.length n2) c2, .int .i64 101] 68) := ⟨_, rfl⟩
  have hb3 : Below w2.heap.size w2 w3 := by rw [hw3]; exact (by repeat' (first | (with_reducible exact Below.refl _ _) | (with_reducible assumption) | (with_reducible refine bel_set ?_ (by (try dsimp only); omega) _) | (with_reducible refine bel_alloc ?_ _) | (with_reducible refine bel_drewN ?_ _) | (with_reducible refine bel_drew ?_)))
  have D3 : Dr B w w3 := Dr.of (bel_trans hw2 hb3) B
  have hc3 : CurT w3 B := Cur.below hc (bel_trans hw2 hb3)
  have HG3 : Hid (GRow tKey w.heap.size [] w3 68 (.slice (some ⟨w2.heap.size, 0, none⟩) 2 2) [(n1, (100 : Int)), (n2, (101 : Int))]) := Lib.hid (GRow.lit2 (ds1 := [.slice A1 (List.length n1) c1, .int .i64 100]) (ds2 := [.slice A2 (List.length n2) c2, .int .i64 101]) (by rw [hw3]; exact Blk.new _ _ _) (RdI.pr (P1.below hb3) (RdI.int (by decide) (P1.below hb3).1)) (RdI.pr (Q2.below hb3) (RdI.int (by decide) (Q2.below hb3).1)) (by omega) (by omega) (by omega) (by omega) (by omega))
  have z3 := hb3.size
  clear P1 Q2 hb1 hb2 hb3 hw2
  go_wp2_with fail
  rw [← hw3]
  clear hw3
  refine Calls.mono (C_spec_l1Below _ B 4 (by repeat' (first | (with_reducible assumption) | (with_reducible refine Cur.far ?_ (by (try dsimp only); omega) _) | (with_reducible refine Cur.alloc ?_ _) | (with_reducible refine Cur.drewN ?_ _) | (with_reducible refine Cur.drew ?_))) (by decide) (by decide)) ?_
  rintro e w4 ⟨hd4, hc4, x, rfl, hx0, hx1⟩
  have z4 := hd4.size
  have D4 : Dr B w w4 := D3.trans hd4
  have HG4 := Lib.hid (HG3.out.dr hd4 (by omega))
  clear hd4 D3 HG3 hc3
  go_wp2
  go_loopw [3, 4] (fun v i wr => ∃ (k : Int) (A : Option Addr) (c : Nat) (l : List (Ty.D tKey)), v = .slice A (List.length l) c ∧ i = .int .i64 k ∧ 0 ≤ k ∧ k ≤ 3 ∧ (l.length : Int) ≤ 5 - k ∧ okKeys l ∧ CurT wr B ∧ Dr B w wr ∧ GRow tKey w.heap.size [] wr 68 (.slice A (List.length l) c) l) (fun _ i _ => (intOf i).toNat)
  case atStart => exact ⟨x, _, _, [(n1, (100 : Int)), (n2, (101 : Int))], rfl, rfl, hx0, by omega, (show (2 : Int) ≤ 5 - x by omega), HOK.out, hc4, D4, HG4.out⟩
  case round =>
    obtain ⟨k, A, c, l, rfl, rfl, hk0, hk3, hll, hol, hcr, hdr, hG⟩ := hrel
    have zr := hdr.size
    have HG := Lib.hid hG
    have HOL := Lib.hid hol
    have hlb := keys_bulk hol
    clear hG hol HG4 D4 hc4 HOK
    by_cases hlt : 0 < k
    · go_wp2_with fail
      refine Calls.mono (C_spec_l1Str _ B _ [[47, 97, 47, 107, 101, 121], [47, 98, 47, 107, 101, 121], [47, 110, 101, 119, 115, 47, 107, 101, 121], [47, 107, 101, 121, 47, 99]] (by repeat' (first | (with_reducible assumption) | (with_reducible refine Cur.far ?_ (by (try dsimp only); omega) _) | (with_reducible refine Cur.alloc ?_ _) | (with_reducible refine Cur.drewN ?_ _) | (with_reducible refine Cur.drew ?_))) (by (repeat (with_reducible refine rd_drewH ?_)); exact rd_litsA (by rfl) (by decide) (by first | (with_reducible rfl) | simp only [World.size_drew] | simp only [World.size_alloc, World.size_drew, size_drewN]) (by rfl) (by rfl) (by decide) (by (try simp only [World.size_alloc, World.size_setCell, size_drewN, World.size_drew]); omega)) (by decide) (by decide)) ?_
      rintro e w5 ⟨hd5, hc5, s, hs, rfl⟩
      have E5 : Dr B wr w5 := (by repeat' (first | (with_reducible exact Dr.refl _ _) | (with_reducible assumption) | (with_reducible refine Dr.set ?_ (by (try dsimp only); omega) _) | (with_reducible refine Dr.alloc ?_ _) | (with_reducible refine Dr.drewN ?_ _) | (with_reducible refine Dr.drew ?_) | (with_reducible refine Dr.trans ?_ (by assumption))))
      have z5 := E5.size
      have hs4 := ring4 hs
      have HS := Lib.hid hs4.1
      have hsl := hs4.2
      clear hd5 hs hs4
      go_wp2_with fail
      refine Calls.mono (C_spec_l4Of _ s (by omega)) ?_
      rintro e w6 ⟨cs6, fp6, rfl, how6, hfr6, hb6⟩
      obtain ⟨A6, c6, rfl⟩ := Ty.ow_slv how6
      have Q6 := RdI.of_owF how6 hfr6 (Nat.le_refl _)
      have z6 := hb6.size
      have E6 : Dr B w5 w6 := Dr.of hb6 B
      have hc6 : CurT w6 B := Cur.below hc5 hb6
      generalize (pnS s).1 = n at Q6 HS ⊢
      clear how6 hfr6 hb6
      go_wp2_with fail
      refine Calls.mono (C_spec_l1Below _ B 8 (by repeat' (first | (with_reducible assumption) | (with_reducible refine Cur.far ?_ (by (try dsimp only); omega) _) | (with_reducible refine Cur.alloc ?_ _) | (with_reducible refine Cur.drewN ?_ _) | (with_reducible refine Cur.drew ?_))) (by decide) (by decide)) ?_
      rintro e w7 ⟨hd7, hc7, y, rfl, hy0, hy1⟩
      have E7 : Dr B w6 w7 := (by repeat' (first | (with_reducible exact Dr.refl _ _) | (with_reducible assumption) | (with_reducible refine Dr.set ?_ (by (try dsimp only); omega) _) | (with_reducible refine Dr.alloc ?_ _) | (with_reducible refine Dr.drewN ?_ _) | (with_reducible refine Dr.drew ?_) | (with_reducible refine Dr.trans ?_ (by assumption))))
      have z7 := E7.size
      have hv : IntKind.i64.wrap (100 + y) = 100 + y := IntWalk.i64_in _ (by omega)
      have F7 : Dr B wr w7 := E5.trans (E6.trans E7)
      have HG7 := Lib.hid (HG.out.dr F7 (by omega))
      have Q7 := Q6.dr E7 (by omega)
      have hki : -9223372036854775808 ≤ 100 + y ∧ 100 + y ≤ 9223372036854775807 := ⟨by omega, by omega⟩
      have hkk : okKey (n, 100 + y) := ⟨HS.out, (show -1 ≤ 100 + y by omega), (show 100 + y ≤ 2147483648 by omega)⟩
      have hkb := key_bulk hkk
      have HADD := Lib.hid (HOL.out.add (by omega) hkk)
      have hd7r : tKey.rd w7 [.slice A6 (List.length n) c6, .int .i64 (100 + y)] (n, 100 + y) := ⟨[_], [_], rfl, Q7.rd, ⟨rfl, hki⟩⟩
      clear hd7 Q6 E5 E6 E7
      go_wp2_with fail
      refine Calls.mono (C_spec_AddKeyR _ _ l _ (n, 100 + y) HG7.out.rd hd7r (by omega) (by omega)) ?_
      rintro e w8 ⟨A8, c8, rfl, hg8, hb8⟩
      have z8 := hb8.size
      have D8 : Dr B w w8 := (hdr.trans F7).then_ hb8
      have hc8 : CurT w8 B := Cur.below hc7 hb8
      have HG8 := Lib.hid (hg8.mono (lo' := w.heap.size) (by omega))
      obtain ⟨r, hr⟩ : ∃ r, r = f0_AddKey l (n, 100 + y) := ⟨_, rfl⟩
      rw [← hr] at HG8 HADD ⊢
      have hadd := HADD.out
      clear hg8 hb8 hr
      go_wp2
      go_roundw
      case rel => exact ⟨k - 1, _, _, r, rfl, rfl, by omega, by omega, by have := hadd.2; omega, hadd.1, hc8, D8, HG8.out⟩
      case measure => simp [intOf]; omega
    · go_wp2
      go_ret
      exact ⟨hdr, hcr, _, l, _, rfl, HG.out, HOL.out, by omega⟩
set_option maxRecDepth 100000 in
set_option maxHeartbeats 4000000 in
theorem C_spec_l9Any (w : World) (B : Nat) (hc : CurT w B) :
    Calls Tryz.prog 61 #[pB B] w (RetDT B w (DrV tKey w okKeys)) := by
  have hB := hc.lt
  go_enter Tryz.func61, Tryz.ntmps61
  go_wp2_with fail
  refine Calls.mono (C_spec_l9Ring _ B (by repeat' (first | (with_reducible assumption) | (with_reducible refine Cur.far ?_ (by (try dsimp only); omega) _) | (with_reducible refine Cur.alloc ?_ _) | (with_reducible refine Cur.drewN ?_ _) | (with_reducible refine Cur.drew ?_)))) ?_
  rintro e w1 ⟨hd1, hc1, A, l, c, rfl, hG, hok, hl5⟩
  have z1 := hd1.size
  have HG := Lib.hid hG
  have HOK := Lib.hid hok
  have h1l := hok.1
  clear hG hok
  go_wp2_with fail
  refine Calls.mono (C_spec_l1Below _ B 8 (by repeat' (first | (with_reducible assumption) | (with_reducible refine Cur.far ?_ (by (try dsimp only); omega) _) | (with_reducible refine Cur.alloc ?_ _) | (with_reducible refine Cur.drewN ?_ _) | (with_reducible refine Cur.drew ?_))) (by decide) (by decide)) ?_
  rintro e w2 ⟨hd2, hc2, k, rfl, hk0, hk1⟩
  have z2 := hd2.size
  have D2 : Dr B w w2 := hd1.trans hd2
  have HG2 := Lib.hid (HG.out.dr hd2 hB)
  have hbl := HG.out.block
  clear hd1 hd2 HG hc1
  rcases (show k = 0 ∨ k = 1 ∨ k = 2 ∨ (k ≠ 0 ∧ k ≠ 1 ∧ k ≠ 2) by omega) with rfl | rfl | rfl | hk
  · go_wp2_with fail
    refine Calls.mono (C_spec_l4Any _ B (by repeat' (first | (with_reducible assumption) | (with_reducible refine Cur.far ?_ (by (try dsimp only); omega) _) | (with_reducible refine Cur.alloc ?_ _) | (with_reducible refine Cur.drewN ?_ _) | (with_reducible refine Cur.drew ?_)))) ?_
    rintro e w3 ⟨hd3, hc3, cs3, n, rfl, hQ3, hok3⟩
    obtain ⟨A3, c3, rfl⟩ := Ty.rd_slv hQ3.rd
    have E3 : Dr B w2 w3 := (by repeat' (first | (with_reducible exact Dr.refl _ _) | (with_reducible assumption) | (with_reducible refine Dr.set ?_ (by (try dsimp only); omega) _) | (with_reducible refine Dr.alloc ?_ _) | (with_reducible refine Dr.drewN ?_ _) | (with_reducible refine Dr.drew ?_) | (with_reducible refine Dr.trans ?_ (by assumption))))
    have z3 := E3.size
    clear hd3
    go_wp2_with fail
    refine Calls.mono (C_spec_l3Word _ B (by repeat' (first | (with_reducible assumption) | (with_reducible refine Cur.far ?_ (by (try dsimp only); omega) _) | (with_reducible refine Cur.alloc ?_ _) | (with_reducible refine Cur.drewN ?_ _) | (with_reducible refine Cur.drew ?_)))) ?_
    rintro e w4 ⟨hd4, hc4, s, rfl, hs0, hs1⟩
    have E4 : Dr B w3 w4 := (by repeat' (first | (with_reducible exact Dr.refl _ _) | (with_reducible assumption) | (with_reducible refine Dr.set ?_ (by (try dsimp only); omega) _) | (with_reducible refine Dr.alloc ?_ _) | (with_reducible refine Dr.drewN ?_ _) | (with_reducible refine Dr.drew ?_) | (with_reducible refine Dr.trans ?_ (by assumption))))
    have z4 := E4.size
    have F4 : Dr B w2 w4 := E3.trans E4
    have D4 : Dr B w w4 := D2.trans F4
    have HG4 := Lib.hid (HG2.out.dr F4 hB)
    have Q4 := hQ3.dr E4 (by omega)
    have QK : RdI tKey w2.heap.size w3.heap.size w4 [.slice A3 (List.length n) c3, .int .i64 s] (n, s) := RdI.pr Q4 (RdI.int (by omega) Q4.1)
    clear hd4 hQ3 Q4 E3 E4 HG2 hc2 hc3
    set_option maxRecDepth 100000 in go_wp2_with (at_builtin; go_loud (refine wpList_append_grow (e := tKey) rfl _ _ 24 rfl w.heap.size [] 68 info_Key rfl Tryz.underlying24 (.slice A (List.length l) c) _ l [(n, s)] (by rfl) (by rfl) (HG4.out.alloc _) (ASrc.lit (te := 68) (Blk.new _ _ _) (QK.alloc _) (by omega) (by simp) (fun q hq => .inl (by have := hbl q hq; omega))) ?_ ?_ ?_ ?_ ?_))
    case refine_1 => intro q hq; simp at hq
    case refine_2 => simp only [List.length_singleton]; omega
    case refine_3 => simp only [List.length_singleton]; unfold maxLen; omega
    case refine_4 => exact (by (try simp only [World.size_alloc, World.size_setCell, size_drewN, World.size_drew]); omega)
    intro v' w' hr' hg'
    have hbl4 := HG4.out.block
    have D5 : Dr B w w' := Dr.grown (D4.alloc _) hg' (fun q hq => (hbl4 q hq).1)
    have C5 : CurT w' B := Cur.grown (hc4.alloc _) hg' (fun q hq => by have := (hbl4 q hq).1; omega)
    have hok5 := HOK.out.app (by omega) (k := (n, s)) ⟨hok3, hs0, hs1⟩
    obtain ⟨r, hr⟩ : ∃ r, r = l ++ [(n, s)] := ⟨_, rfl⟩
    rw [← hr] at hr' hok5
    clear hr
    obtain ⟨A5, c5, rfl⟩ := hr'.form
    have HR := Lib.hid hr'
    clear hr' hg' hbl hbl4 D4
    go_wp2
    go_ret
    exact ⟨D5, C5, _, r, _, rfl, HR.out.rdI, hok5⟩
  · obtain ⟨g, ds, hA, hdl, hcell, hfr, hgb, hrd0, hsrc⟩ := HG2.out.at (k := 0) (by omega)
    obtain ⟨A0, c0, rfl, -, -⟩ := rd_Key hrd0
    subst hA
    have e0 : w2.cell? ⟨g, 0, none⟩ = some (.slice A0 (List.length l[0].1) c0) := by simpa [Ty.sz] using hcell 0 (by decide)
    have e1 : w2.cell? ⟨g, 1, none⟩ = some (.int .i64 l[0].2) := by simpa [Ty.sz] using hcell 1 (by decide)
    have i0 : (0 : Int) < (List.length l : Int) := by omega
    have hm0 := HOK.out.2.2 l[0] (List.getElem_mem _)
    have HSRC := Lib.hid hsrc
    have hbl2 := HG2.out.block
    clear hcell hfr hdl hrd0 hsrc hbl
    generalize l[0] = q0 at e0 e1 hm0 HSRC
    set_option maxRecDepth 100000 in go_wp2_with (at_builtin; go_loud (refine wpList_append_grow (e := tKey) rfl _ _ 24 rfl w.heap.size [] 68 info_Key rfl Tryz.underlying24 (.slice (some ⟨g, 0, none⟩) (List.length l) c) _ l [q0] (by rfl) (by rfl) (HG2.out.alloc _) (HSRC.out _ 68 _ _ (bel_alloc (Below.refl _ _) _) (Blk.new _ _ _)) ?_ ?_ ?_ ?_ ?_))
    case refine_1 => intro q hq; simp at hq
    case refine_2 => simp only [List.length_singleton]; omega
    case refine_3 => simp only [List.length_singleton]; unfold maxLen; omega
    case refine_4 => exact (by (try simp only [World.size_alloc, World.size_setCell, size_drewN, World.size_drew]); omega)
    intro v' w' hr' hg'
    have D5 : Dr B w w' := Dr.grown (D2.alloc _) hg' (fun q hq => (hbl2 q hq).1)
    have C5 : CurT w' B := Cur.grown (hc2.alloc _) hg' (fun q hq => by have := (hbl2 q hq).1; omega)
    have hok5 := HOK.out.app (by omega) hm0
    obtain ⟨r, hr⟩ : ∃ r, r = l ++ [q0] := ⟨_, rfl⟩
    rw [← hr] at hr' hok5
    clear hr
    obtain ⟨A5, c5, rfl⟩ := hr'.form
    have HR := Lib.hid hr'
    clear hr' hg' hbl2 e0 e1
    go_wp2
    go_ret
    exact ⟨D5, C5, _, r, _, rfl, HR.out.rdI, hok5⟩
  · go_wp2_with fail
    refine Calls.mono (C_spec_l1Int _ B _ [0, 101, 2147483647] (by repeat' (first | (with_reducible assumption) | (with_reducible refine Cur.far ?_ (by (try dsimp only); omega) _) | (with_reducible refine Cur.alloc ?_ _) | (with_reducible refine Cur.drewN ?_ _) | (with_reducible refine Cur.drew ?_))) (by (repeat (with_reducible refine rd_drewH ?_)); exact rd_litiA (by rfl) (by decide) (by first | (with_reducible rfl) | simp only [World.size_drew] | simp only [World.size_alloc, World.size_drew, size_drewN]) (by rfl) (by rfl) (by decide) (by (try simp only [World.size_alloc, World.size_setCell, size_drewN, World.size_drew]); omega)) (by decide) (by decide)) ?_
    rintro e w3 ⟨hd3, hc3, s, hs, rfl⟩
    have E3 : Dr B w2 w3 := (by repeat' (first | (with_reducible exact Dr.refl _ _) | (with_reducible assumption) | (with_reducible refine Dr.set ?_ (by (try dsimp only); omega) _) | (with_reducible refine Dr.alloc ?_ _) | (with_reducible refine Dr.drewN ?_ _) | (with_reducible refine Dr.drew ?_) | (with_reducible refine Dr.trans ?_ (by assumption))))
    have hw := mem_word hs (by decide)
    have D3 : Dr B w w3 := D2.trans E3
    have HG3 := HG2.out.dr E3 hB
    obtain ⟨g, ds, hA, hdl, hcell, hfr, hgb, hrd0, -⟩ := HG3.at (k := 0) (by omega)
    obtain ⟨A0, c0, rfl, -, -⟩ := rd_Key hrd0
    subst hA
    have e0 : w3.cell? ⟨g, 0, none⟩ = some (.slice A0 (List.length l[0].1) c0) := by simpa [Ty.sz] using hcell 0 (by decide)
    have e1 : w3.cell? ⟨g, 1, none⟩ = some (.int .i64 l[0].2) := by simpa [Ty.sz] using hcell 1 (by decide)
    have f1 := hfr 1
    have i0 : (0 : Int) < (List.length l : Int) := by omega
    have hm0 := HOK.out.2.2 l[0] (List.getElem_mem _)
    have HG5 := Lib.hid (HG3.setAt (k := 0) (j := 1) (by omega) (by decide) (.int .i64 s) (l[0].1, s) (fun W ds hd => by
      obtain ⟨A9, c9, rfl, h9, _⟩ := rd_Key hd
      exact ⟨[_], [_], rfl, h9, ⟨rfl, by omega⟩⟩))
    have hok5 := HOK.out.set (k := (l[0].1, s)) ⟨hm0.1, hw⟩ 0
    have C5 : CurT (w3.setCell ⟨g, 0 * tKey.sz + 1, none⟩ (.int .i64 s)) B := Cur.far hc3 (by dsimp only; omega) _
    have D5 : Dr B w (w3.setCell ⟨g, 0 * tKey.sz + 1, none⟩ (.int .i64 s)) := Dr.set D3 (.inr (by dsimp only; omega)) _
    have hl5' : (l.set 0 (l[0].1, s)).length = l.length := List.length_set
    simp only [Ty.sz, Nat.zero_mul, Nat.zero_add] at C5 D5 HG5
    generalize l.set 0 (l[0].1, s) = r at HG5 hok5 hl5'
    rw [← hl5'] at HG5 ⊢
    clear hcell hfr hdl hrd0 hs hd3 HG3 hbl
    have HL5 := Lib.hid hl5'
    have i1 : (0 : Int) < (List.length r : Int) := by omega
    clear hl5'
    go_wp2
    go_ret
    exact ⟨D5, C5, _, r, _, rfl, HG5.out.rdI, hok5⟩
  · have q0 : (k == 0) = false := by rw [beq_eq_false_iff_ne]; exact hk.1
    have q1 : (k == 1) = false := by rw [beq_eq_false_iff_ne]; exact hk.2.1
    have q2 : (k == 2) = false := by rw [beq_eq_false_iff_ne]; exact hk.2.2
    go_wp2
    go_ret
    exact ⟨D2, hc2, _, l, _, rfl, HG2.out.rdI, HOK.out⟩
end Go.Proofs.YtldgbnlcnlfmeaaGreat

/- The draws of the law FnKeys. Printed by gen67.py. -/
namespace Go.Proofs.YtldgbnlcnlfmeaaGreat
open Go.RowKit
set_option linter.unusedVariables false
set_option linter.unusedSimpArgs false

theorem stored5n {P W : World} {g : Nat} {t : TypeId} {a b c d e v0 v1 v2 v3 v4 : Value} (h : Blk P g t #[a, b, c, d, e]) (hw : W = (((((P.setCell ⟨g, 0, none⟩ v0).setCell ⟨g, 1, none⟩ v1).setCell ⟨g, 2, none⟩ v2).setCell ⟨g, 3, none⟩ v3).setCell ⟨g, 4, none⟩ v4) ∨ W = (((((P.setCell ⟨g, 0, none⟩ v0).setCell ⟨g, 1, none⟩ v1).setCell ⟨g, 2, none⟩ v2).setCell ⟨g, 3, none⟩ v3).setCell ⟨g, 4, none⟩ v4).drew) :
    Blk W g t #[v0, v1, v2, v3, v4] ∧ (∀ q, q ≠ g → W.heap[q]? = P.heap[q]?) ∧ P.heap.size ≤ W.heap.size ∧ ∀ (w0 : World) (B : Nat), w0.heap.size ≤ g → Dr B w0 P → Dr B w0 W := by
  have hb : Blk (((((P.setCell ⟨g, 0, none⟩ v0).setCell ⟨g, 1, none⟩ v1).setCell ⟨g, 2, none⟩ v2).setCell ⟨g, 3, none⟩ v3).setCell ⟨g, 4, none⟩ v4) g t #[v0, v1, v2, v3, v4] := (Blk.set_ (Blk.set_ (Blk.set_ (Blk.set_ (Blk.set_ h 0 v0) 1 v1) 2 v2) 3 v3) 4 v4)
  have hD : ∀ (w0 : World) (B : Nat), w0.heap.size ≤ g → Dr B w0 P → Dr B w0 (((((P.setCell ⟨g, 0, none⟩ v0).setCell ⟨g, 1, none⟩ v1).setCell ⟨g, 2, none⟩ v2).setCell ⟨g, 3, none⟩ v3).setCell ⟨g, 4, none⟩ v4) := fun w0 B h0 hd => Dr.set (Dr.set (Dr.set (Dr.set (Dr.set hd (.inr h0) v0) (.inr h0) v1) (.inr h0) v2) (.inr h0) v3) (.inr h0) v4
  rcases hw with rfl | rfl
  · exact ⟨hb, fun q hq => keep5 _ _ _ _ _ _ _ hq, by simp only [World.size_setCell]; exact Nat.le_refl _, hD⟩
  · exact ⟨hb.drew, fun q hq => keep5d _ _ _ _ _ _ _ hq, by simp only [World.size_setCell, World.size_drew]; exact Nat.le_refl _, fun w0 B h0 hd => (hD w0 B h0 hd).drew⟩
theorem sec3 {s : List UInt8} (h : s ∈ [[47, 107, 101, 121, 47, 97], [47, 97, 47, 107, 101, 121], [47, 122, 122]]) : okAny (pnS s).1 ∧ s.length ≤ 100 := by
  simp at h; rcases h with rfl | rfl | rfl <;> exact ⟨okAny.of _ (by decide), by decide⟩
theorem sgn3 {s : List UInt8} (h : s ∈ [[47, 107, 101, 121, 47, 97], [47, 107, 101, 121, 47, 98], [47, 122, 122]]) : okAny (pnS s).1 ∧ s.length ≤ 100 := by
  simp at h; rcases h with rfl | rfl | rfl <;> exact ⟨okAny.of _ (by decide), by decide⟩
set_option maxRecDepth 100000 in
set_option maxHeartbeats 2000000 in
theorem C_spec_DrawSecretOf (w : World) (v : Value) (b : List UInt8) (h : (Ty.sl .byte).rd w [v] b) :
    Calls Tryz.prog 41 #[v] w (fun e w' => ∃ A l c An n cn, e = .returned (.tuple #[.slice A (List.length l) c, .agg #[.slice An (List.length n) cn]]) ∧ (Ty.sl tKey).rd w' [.slice A (List.length l) c] l ∧ (Ty.sl .str).rd w' [.slice An (List.length n) cn] n ∧ okKeys l ∧ okAny n ∧ Below w.heap.size w w') := by
  obtain ⟨Ac, cc, rfl, _, _, _⟩ := Ty.rd_sl h
  go_enter Tryz.func41, Tryz.ntmps41
  go_wp2_with fail
  refine Calls.mono (C_spec_l1New _ _ b (Ty.rd_below (by repeat' (first | (with_reducible exact Below.refl _ _) | (with_reducible assumption) | (with_reducible refine bel_set ?_ (by (try dsimp only); omega) _) | (with_reducible refine bel_alloc ?_ _) | (with_reducible refine bel_drewN ?_ _) | (with_reducible refine bel_drew ?_))) h)) ?_
  rintro e w1 ⟨rfl, hb1, hc1⟩
  simp only [World.size_alloc] at hc1 ⊢
  have z1 := hc1.lt
  have hO1 : Blk w1 w.heap.size 32 #[.slice none 0 0] := (Blk.new w _ _).below hb1 (by simp only [World.size_alloc]; omega)
  have D1 : Dr (w.heap.size + 1) w w1 := Dr.of (bel_trans (by repeat' (first | (with_reducible exact Below.refl _ _) | (with_reducible assumption) | (with_reducible refine bel_set ?_ (by (try dsimp only); omega) _) | (with_reducible refine bel_alloc ?_ _) | (with_reducible refine bel_drewN ?_ _) | (with_reducible refine bel_drew ?_))) hb1) _
  clear hb1
  go_wp2_with fail
  refine Calls.mono (C_spec_l9Any _ (w.heap.size + 1) (by repeat' (first | (with_reducible assumption) | (with_reducible refine Cur.far ?_ (by (try dsimp only); omega) _) | (with_reducible refine Cur.alloc ?_ _) | (with_reducible refine Cur.drewN ?_ _) | (with_reducible refine Cur.drew ?_)))) ?_
  rintro e w2 ⟨hd2, hc2, A2, l, c2, rfl, hQ2, hokl⟩
  have D2 : Dr (w.heap.size + 1) w w2 := D1.trans hd2
  have z2 := hd2.size
  have HOKL := Lib.hid hokl
  have hl1 := hokl.1
  have hl8 := hokl.2.1
  have hO2 := Dr.blk hd2 hO1 (by omega)
  clear hd2 hO1 D1 hc1 hokl
  go_wp2_with fail
  refine Calls.mono (C_spec_l1Str _ (w.heap.size + 1) _ [[47, 107, 101, 121, 47, 97], [47, 97, 47, 107, 101, 121], [47, 122, 122]] (by repeat' (first | (with_reducible assumption) | (with_reducible refine Cur.far ?_ (by (try dsimp only); omega) _) | (with_reducible refine Cur.alloc ?_ _) | (with_reducible refine Cur.drewN ?_ _) | (with_reducible refine Cur.drew ?_))) (by (repeat (with_reducible refine rd_drewH ?_)); exact rd_litsA (by rfl) (by decide) (by first | (with_reducible rfl) | simp only [World.size_drew] | simp only [World.size_alloc, World.size_drew, size_drewN]) (by rfl) (by rfl) (by decide) (by (try simp only [World.size_alloc, World.size_setCell, size_drewN, World.size_drew]); omega)) (by decide) (by decide)) ?_
  rintro e w3 ⟨hd3, hc3, s, hs, rfl⟩
  have hs3 := sec3 hs
  have hsl := hs3.2
  have E3 : Dr (w.heap.size + 1) w2 w3 := (by repeat' (first | (with_reducible exact Dr.refl _ _) | (with_reducible assumption) | (with_reducible refine Dr.set ?_ (by (try dsimp only); omega) _) | (with_reducible refine Dr.alloc ?_ _) | (with_reducible refine Dr.drewN ?_ _) | (with_reducible refine Dr.drew ?_) | (with_reducible refine Dr.trans ?_ (by assumption))))
  have z3 := E3.size
  have D3 : Dr (w.heap.size + 1) w w3 := D2.trans E3
  have hO3 := Dr.blk E3 hO2 (by omega)
  have Q3 := hQ2.dr E3 (by omega)
  clear hd3 E3 D2 hO2 hQ2 hc2 hs
  go_wp2_with fail
  refine Calls.mono (C_spec_l4Of _ s (by omega)) ?_
  rintro e w4 ⟨cs4, fp4, rfl, how4, hfr4, hb4⟩
  obtain ⟨A4, c4, rfl⟩ := Ty.ow_slv how4
  have z4 := hb4.size
  have D4 : Dr (w.heap.size + 1) w w4 := D3.then_ hb4
  have hO4 := hO3.below hb4 (by omega)
  have Q4 := Q3.below hb4
  have N4 := RdI.of_owF how4 hfr4 (Nat.le_refl _)
  have hokn := hs3.1
  clear D3 hO3 Q3 how4 hfr4 hs3
  generalize (pnS s).1 = n at N4 hokn ⊢
  have kO := hO4.c1
  have fO : w4.frozen? ⟨w.heap.size, 0, none⟩ = false := hO4.f1
  have zO := hO4.lt
  have P5 := hO4.set_ 0 (.slice A4 (List.length n) c4)
  have Q5 := Q4.set (p := ⟨w.heap.size, 0, none⟩) (.inl (by dsimp only; omega)) (.slice A4 (List.length n) c4)
  have N5 := N4.set (p := ⟨w.heap.size, 0, none⟩) (.inl (by dsimp only; omega)) (.slice A4 (List.length n) c4)
  have D5 := D4.set (p := ⟨w.heap.size, 0, none⟩) (.inr (Nat.le_refl _)) (.slice A4 (List.length n) c4)
  have k5 := P5.c1
  go_wp2
  refine bodyPost_ret (v := .tuple #[.slice A2 (List.length l) c2, .agg #[.slice A4 (List.length n) c4]]) (by simp [results, Tryz.results41, go_sem, kO, fO, zO]) rfl ?_
  exact ⟨_, l, _, _, n, _, rfl, Q5.rd, N5.rd, HOKL.out, hokn, Dr.below D5 (by omega) (Nat.le_refl _)⟩
set_option maxRecDepth 100000 in
set_option maxHeartbeats 2000000 in
theorem C_spec_DrawAddKey (w : World) (v : Value) (b : List UInt8) (h : (Ty.sl .byte).rd w [v] b) :
    Calls Tryz.prog 38 #[v] w (fun e w' => ∃ A l c An cn k, e = .returned (.tuple #[.slice A (List.length l) c, .agg #[.slice An (List.length k.1) cn, .int .i64 k.2]]) ∧ (Ty.sl tKey).rd w' [.slice A (List.length l) c] l ∧ tKey.rd w' [.slice An (List.length k.1) cn, .int .i64 k.2] k ∧ okKeys l ∧ okKey k ∧ Below w.heap.size w w') := by
  obtain ⟨Ac, cc, rfl, _, _, _⟩ := Ty.rd_sl h
  go_enter Tryz.func38, Tryz.ntmps38
  go_wp2_with fail
  refine Calls.mono (C_spec_l1New _ _ b (Ty.rd_below (by repeat' (first | (with_reducible exact Below.refl _ _) | (with_reducible assumption) | (with_reducible refine bel_set ?_ (by (try dsimp only); omega) _) | (with_reducible refine bel_alloc ?_ _) | (with_reducible refine bel_drewN ?_ _) | (with_reducible refine bel_drew ?_))) h)) ?_
  rintro e w1 ⟨rfl, hb1, hc1⟩
  simp only [World.size_alloc] at hc1 ⊢
  have z1 := hc1.lt
  have hO1 : Blk w1 w.heap.size 68 #[.slice none 0 0, .int .i64 0] := (Blk.new w _ _).below hb1 (by simp only [World.size_alloc]; omega)
  have D1 : Dr (w.heap.size + 1) w w1 := Dr.of (bel_trans (by repeat' (first | (with_reducible exact Below.refl _ _) | (with_reducible assumption) | (with_reducible refine bel_set ?_ (by (try dsimp only); omega) _) | (with_reducible refine bel_alloc ?_ _) | (with_reducible refine bel_drewN ?_ _) | (with_reducible refine bel_drew ?_))) hb1) _
  clear hb1
  go_wp2_with fail
  refine Calls.mono (C_spec_l9Any _ (w.heap.size + 1) (by repeat' (first | (with_reducible assumption) | (with_reducible refine Cur.far ?_ (by (try dsimp only); omega) _) | (with_reducible refine Cur.alloc ?_ _) | (with_reducible refine Cur.drewN ?_ _) | (with_reducible refine Cur.drew ?_)))) ?_
  rintro e w2 ⟨hd2, hc2, A2, l, c2, rfl, hQ2, hokl⟩
  have D2 : Dr (w.heap.size + 1) w w2 := D1.trans hd2
  have z2 := hd2.size
  have HOKL := Lib.hid hokl
  have hl1 := hokl.1
  have hl8 := hokl.2.1
  have hO2 := Dr.blk hd2 hO1 (by omega)
  clear hd2 hO1 D1 hc1 hokl
  go_wp2_with fail
  refine Calls.mono (C_spec_l4Any _ (w.heap.size + 1) (by repeat' (first | (with_reducible assumption) | (with_reducible refine Cur.far ?_ (by (try dsimp only); omega) _) | (with_reducible refine Cur.alloc ?_ _) | (with_reducible refine Cur.drewN ?_ _) | (with_reducible refine Cur.drew ?_)))) ?_
  rintro e w3 ⟨hd3, hc3, cs3, n, rfl, hQn, hokn⟩
  obtain ⟨A4, c4, rfl⟩ := Ty.rd_slv hQn.rd
  have E3 : Dr (w.heap.size + 1) w2 w3 := (by repeat' (first | (with_reducible exact Dr.refl _ _) | (with_reducible assumption) | (with_reducible refine Dr.set ?_ (by (try dsimp only); omega) _) | (with_reducible refine Dr.alloc ?_ _) | (with_reducible refine Dr.drewN ?_ _) | (with_reducible refine Dr.drew ?_) | (with_reducible refine Dr.trans ?_ (by assumption))))
  have z3 := E3.size
  have D3 : Dr (w.heap.size + 1) w w3 := D2.trans E3
  have hO3 := Dr.blk E3 hO2 (by omega)
  have Q3 := hQ2.dr E3 (by omega)
  clear hd3 E3 D2 hO2 hQ2 hc2
  go_wp2_with fail
  refine Calls.mono (C_spec_l1Int _ (w.heap.size + 1) _ [100, 105, 0] (by repeat' (first | (with_reducible assumption) | (with_reducible refine Cur.far ?_ (by (try dsimp only); omega) _) | (with_reducible refine Cur.alloc ?_ _) | (with_reducible refine Cur.drewN ?_ _) | (with_reducible refine Cur.drew ?_))) (by (repeat (with_reducible refine rd_drewH ?_)); exact rd_litiA (by rfl) (by decide) (by first | (with_reducible rfl) | simp only [World.size_drew] | simp only [World.size_alloc, World.size_drew, size_drewN]) (by rfl) (by rfl) (by decide) (by (try simp only [World.size_alloc, World.size_setCell, size_drewN, World.size_drew]); omega)) (by decide) (by decide)) ?_
  rintro e w4 ⟨hd4, hc4, s, hs, rfl⟩
  have hw := mem_word hs (by decide)
  have E4 : Dr (w.heap.size + 1) w3 w4 := (by repeat' (first | (with_reducible exact Dr.refl _ _) | (with_reducible assumption) | (with_reducible refine Dr.set ?_ (by (try dsimp only); omega) _) | (with_reducible refine Dr.alloc ?_ _) | (with_reducible refine Dr.drewN ?_ _) | (with_reducible refine Dr.drew ?_) | (with_reducible refine Dr.trans ?_ (by assumption))))
  have z4 := E4.size
  have D4 : Dr (w.heap.size + 1) w w4 := D3.trans E4
  have hO4 := Dr.blk E4 hO3 (by omega)
  have Q4 := Q3.dr E4 (by omega)
  have N4 := hQn.dr E4 (by omega)
  clear D3 hO3 Q3 hQn hd4 E4 hc3 hs
  have kO0 : w4.cell? ⟨w.heap.size, 0, none⟩ = some (.slice none 0 0) := hO4.cell 0
  have kO1 : w4.cell? ⟨w.heap.size, 1, none⟩ = some (.int .i64 0) := hO4.cell 1
  have fO0 : w4.frozen? ⟨w.heap.size, 0, none⟩ = false := hO4.f1
  have fO1 : w4.frozen? ⟨w.heap.size, 1, none⟩ = false := hO4.f1
  have zO := hO4.lt
  have P5 := (hO4.set_ 0 (.slice A4 (List.length n) c4)).set_ 1 (.int .i64 s)
  have Q5 := (Q4.set (p := ⟨w.heap.size, 0, none⟩) (.inl (by dsimp only; omega)) (.slice A4 (List.length n) c4)).set (p := ⟨w.heap.size, 1, none⟩) (.inl (by dsimp only; omega)) (.int .i64 s)
  have N5 := (N4.set (p := ⟨w.heap.size, 0, none⟩) (.inl (by dsimp only; omega)) (.slice A4 (List.length n) c4)).set (p := ⟨w.heap.size, 1, none⟩) (.inl (by dsimp only; omega)) (.int .i64 s)
  have D5 := (D4.set (p := ⟨w.heap.size, 0, none⟩) (.inr (Nat.le_refl _)) (.slice A4 (List.length n) c4)).set (p := ⟨w.heap.size, 1, none⟩) (.inr (Nat.le_refl _)) (.int .i64 s)
  go_wp2_with fail
  generalize ((w4.setCell ⟨w.heap.size, 0, none⟩ (.slice A4 (List.length n) c4)).setCell ⟨w.heap.size, 1, none⟩ (.int .i64 s)) = w5 at P5 Q5 N5 D5 ⊢
  have k50 : w5.cell? ⟨w.heap.size, 0, none⟩ = some (.slice A4 (List.length n) c4) := P5.cell 0
  have k51 : w5.cell? ⟨w.heap.size, 1, none⟩ = some (.int .i64 s) := P5.cell 1
  refine bodyPost_ret (v := .tuple #[.slice A2 (List.length l) c2, .agg #[.slice A4 (List.length n) c4, .int .i64 s]]) (by simp [results, Tryz.results38, go_sem, k50, k51]) rfl ?_
  exact ⟨_, l, _, _, _, (n, s), rfl, Q5.rd, ⟨[_], [_], rfl, N5.rd, ⟨rfl, by omega⟩⟩, HOKL.out, ⟨hokn, hw⟩, Dr.below D5 (by omega) (Nat.le_refl _)⟩
set_option maxRecDepth 100000 in
set_option maxHeartbeats 4000000 in
theorem C_spec_l9Pair (w : World) (v : Value) (b : List UInt8) (h : (Ty.sl .byte).rd w [v] b) :
    Calls Tryz.prog 97 #[v] w (fun e w' => ∃ A l c cs x, e = .returned (.tuple #[.slice A (List.length l) c, .agg cs.toArray]) ∧ RdI (.sl tKey) w.heap.size w'.heap.size w' [.slice A (List.length l) c] l ∧ RdI tData w.heap.size w'.heap.size w' cs x ∧ okKeys l ∧ okThing x ∧ Below w.heap.size w w') := by
  obtain ⟨Ac, cc, rfl, _, _, _⟩ := Ty.rd_sl h
  go_enter Tryz.func97, Tryz.ntmps97
  go_wp2_with fail
  refine Calls.mono (C_spec_l1New _ _ b (Ty.rd_below (by repeat' (first | (with_reducible exact Below.refl _ _) | (with_reducible assumption) | (with_reducible refine bel_set ?_ (by (try dsimp only); omega) _) | (with_reducible refine bel_alloc ?_ _) | (with_reducible refine bel_drewN ?_ _) | (with_reducible refine bel_drew ?_))) h)) ?_
  rintro e w1 ⟨rfl, hb1, hc1⟩
  simp only [World.size_alloc] at hc1 ⊢
  have z1 := hc1.lt
  have hO1 : Blk w1 w.heap.size 34 #[.slice none 0 0, .slice none 0 0, .slice none 0 0, .int .i64 0, .int .i64 0] := (Blk.new w _ _).below hb1 (by simp only [World.size_alloc]; omega)
  have D1 : Dr (w.heap.size + 1) w w1 := Dr.of (bel_trans (by repeat' (first | (with_reducible exact Below.refl _ _) | (with_reducible assumption) | (with_reducible refine bel_set ?_ (by (try dsimp only); omega) _) | (with_reducible refine bel_alloc ?_ _) | (with_reducible refine bel_drewN ?_ _) | (with_reducible refine bel_drew ?_))) hb1) _
  clear hb1
  go_wp2_with fail
  refine Calls.mono (C_spec_l9Any _ (w.heap.size + 1) (by repeat' (first | (with_reducible assumption) | (with_reducible refine Cur.far ?_ (by (try dsimp only); omega) _) | (with_reducible refine Cur.alloc ?_ _) | (with_reducible refine Cur.drewN ?_ _) | (with_reducible refine Cur.drew ?_)))) ?_
  rintro e w2 ⟨hd2, hc2, A2, l, c2, rfl, hQ2, hokl⟩
  have D2 : Dr (w.heap.size + 1) w w2 := D1.trans hd2
  have z2 := hd2.size
  have HOKL := Lib.hid hokl
  have hl1 := hokl.1
  have hl8 := hokl.2.1
  have hO2 := Dr.blk hd2 hO1 (by omega)
  clear hd2 hO1 D1 hc1 hokl
  go_wp2_with fail
  refine Calls.mono (C_spec_l8Any _ (w.heap.size + 1) (by repeat' (first | (with_reducible assumption) | (with_reducible refine Cur.far ?_ (by (try dsimp only); omega) _) | (with_reducible refine Cur.alloc ?_ _) | (with_reducible refine Cur.drewN ?_ _) | (with_reducible refine Cur.drew ?_)))) ?_
  rintro e w3 ⟨hd3, hc3, cs3, x, rfl, hX3, hokx⟩
  obtain ⟨A0, c0, A1, c1, A3, c3, rfl, -, -, -, -, -⟩ := rd_Data hX3.rd
  have E3 : Dr (w.heap.size + 1) w2 w3 := (by repeat' (first | (with_reducible exact Dr.refl _ _) | (with_reducible assumption) | (with_reducible refine Dr.set ?_ (by (try dsimp only); omega) _) | (with_reducible refine Dr.alloc ?_ _) | (with_reducible refine Dr.drewN ?_ _) | (with_reducible refine Dr.drew ?_) | (with_reducible refine Dr.trans ?_ (by assumption))))
  have z3 := E3.size
  have D3 : Dr (w.heap.size + 1) w w3 := D2.trans E3
  have hO3 := Dr.blk E3 hO2 (by omega)
  have Q3 := hQ2.dr E3 (by omega)
  have hxb := thing_bulk hokx
  clear hd3 E3 D2 hO2 hQ2 hc2
  go_wp2_with fail
  refine Calls.mono (C_spec_l1Once _ (w.heap.size + 1) 2 (by repeat' (first | (with_reducible assumption) | (with_reducible refine Cur.far ?_ (by (try dsimp only); omega) _) | (with_reducible refine Cur.alloc ?_ _) | (with_reducible refine Cur.drewN ?_ _) | (with_reducible refine Cur.drew ?_))) (by decide) (by decide)) ?_
  rintro e w4 ⟨hd4, hc4, yes, rfl⟩
  have E4 : Dr (w.heap.size + 1) w3 w4 := (by repeat' (first | (with_reducible exact Dr.refl _ _) | (with_reducible assumption) | (with_reducible refine Dr.set ?_ (by (try dsimp only); omega) _) | (with_reducible refine Dr.alloc ?_ _) | (with_reducible refine Dr.drewN ?_ _) | (with_reducible refine Dr.drew ?_) | (with_reducible refine Dr.trans ?_ (by assumption))))
  have z4 := hd4.size
  simp only [World.size_alloc] at z4
  have D4 := Lib.hid (D3.trans E4)
  have hO4 := Dr.blk E4 hO3 (by omega)
  have hP4 : Blk w4 w3.heap.size 34 #[.slice A0 (List.length x.1) c0, .slice A1 (List.length x.2.1) c1, .slice A3 (List.length x.2.2.1) c3, .int .i64 x.2.2.2.1, .int .i64 x.2.2.2.2] := Dr.blk hd4 (Blk.new w3 _ _) (by omega)
  have Q4 := Q3.dr E4 (by omega)
  have X4 := hX3.dr E4 (by omega)
  have zP4 := hP4.lt
  clear hd4 E4 D3 hO3 Q3 hX3 hc3
  cases yes with
  | false =>
    clear hc4
    obtain ⟨o0, o1, o2, o3, o4, q0, q1, q2, q3, q4⟩ := blk5 hO4
    have zO := hO4.lt
    obtain ⟨r0, r1, r2, r3, r4, -⟩ := blk5 (Blk.drew hP4)
    obtain ⟨s0, s1, s2, s3, s4, -⟩ := blk5 hP4
    go_wp2_with fail
    refine wp_region_noPanic ?_
    refine wp_region_held_drew (S := (fun V => V.cell? ⟨w3.heap.size, 0, none⟩ = some (.slice A0 (List.length x.1) c0) ∧ V.cell? ⟨w3.heap.size, 1, none⟩ = some (.slice A1 (List.length x.2.1) c1) ∧ V.cell? ⟨w3.heap.size, 2, none⟩ = some (.slice A3 (List.length x.2.2.1) c3) ∧ V.cell? ⟨w3.heap.size, 3, none⟩ = some (.int .i64 x.2.2.2.1) ∧ V.cell? ⟨w3.heap.size, 4, none⟩ = some (.int .i64 x.2.2.2.2))) (by kernel_rfl) ?_ (fun hHeld => ?_)
    · first | (with_reducible exact ⟨s0, s1, s2, s3, s4⟩) | (with_reducible exact ⟨r0, r1, r2, r3, r4⟩)
    refine tk 0 (opN rfl) (by kernel_rfl) (by rfl) (by (intro w hSw; (try dsimp only at hSw); go_simp; first | done | with_reducible rfl)) (by assumption) ?_
    try simp only [Act.put, List.setIfInBounds_toArray, List.set_cons_zero, List.set_cons_succ]
    refine tk 1 (opN rfl) (by kernel_rfl) (by rfl) (by (intro w hSw; (try dsimp only at hSw); go_simp; first | done | with_reducible rfl)) (by assumption) ?_
    try simp only [Act.put, List.setIfInBounds_toArray, List.set_cons_zero, List.set_cons_succ]
    refine tk 2 (opN rfl) (by kernel_rfl) (by rfl) (by (intro w hSw; (try dsimp only at hSw); go_simp; first | done | with_reducible rfl)) (by assumption) ?_
    try simp only [Act.put, List.setIfInBounds_toArray, List.set_cons_zero, List.set_cons_succ]
    refine wpAnyH_ready (rs := [3]) (by kernel_rfl) (by simp) ?_
    refine (AllReadyH.cons (opN rfl) (fun K hK => ?_) AllReadyH.nil)
    go_simp
    refine abs_world (fun w9 hw9 => ?_)
    obtain ⟨hO9, hK9, hs9, F9⟩ := stored5n (v0 := .slice A0 (List.length x.1) c0) (v1 := .slice A1 (List.length x.2.1) c1) (v2 := .slice A3 (List.length x.2.2.1) c3) (v3 := .int .i64 x.2.2.2.1) (v4 := .int .i64 x.2.2.2.2) hO4 (by first | exact .inr hw9 | exact .inl hw9)
    have D9 := Lib.hid (F9 w (w.heap.size + 1) (Nat.le_refl _) D4.out)
    have hP9 : Blk w9 w3.heap.size 34 #[.slice A0 (List.length x.1) c0, .slice A1 (List.length x.2.1) c1, .slice A3 (List.length x.2.2.1) c3, .int .i64 x.2.2.2.1, .int .i64 x.2.2.2.2] := (hK9 _ (by omega)).trans hP4
    have Q9 := Q4.keep hs9 (fun q h1 h2 => hK9 q (by omega))
    have X9 := X4.keep hs9 (fun q h1 h2 => hK9 q (by omega))
    clear hw9 hK9
    obtain ⟨p0, p1, p2, p3, p4, -⟩ := blk5 hP9
    refine hK.out _ _ ?_ (fun hHeld => ?_)
    · (try dsimp only)
      exact ⟨p0, p1, p2, p3, p4⟩
    clear hK K
    try simp only [Act.put, List.setIfInBounds_toArray, List.set_cons_zero, List.set_cons_succ]
    refine wpAnyH_done (by kernel_rfl) ?_ _
    refine NoPanic.normal ?_
    obtain ⟨o0, o1, o2, o3, o4, -⟩ := blk5 hO9
    go_wp2
    refine bodyPost_ret (v := .tuple #[.slice A2 (List.length l) c2, .agg #[.slice A0 (List.length x.1) c0, .slice A1 (List.length x.2.1) c1, .slice A3 (List.length x.2.2.1) c3, .int .i64 x.2.2.2.1, .int .i64 x.2.2.2.2]]) (by simp [results, Tryz.results97, go_sem, o0, o1, o2, o3, o4]) rfl ?_
    exact ⟨_, l, _, _, x, rfl, Q9.mono (by omega) Q9.1 (Nat.le_refl _), X9.mono (by omega) X9.1 (Nat.le_refl _), HOKL.out, hokx, Dr.below D9.out (by omega) (Nat.le_refl _)⟩
  | true =>
    go_wp2_with fail
    refine wp_region_noPanic ?_
    refine wp_region_held_drew (S := (fun _ => True)) (by kernel_rfl) ?_ (fun hHeld => ?_)
    · trivial
    refine tk 0 (opN rfl) (by kernel_rfl) (by rfl) (by (intro w hSw; (try dsimp only at hSw); go_simp; first | done | with_reducible rfl)) (by assumption) ?_
    try simp only [Act.put, List.setIfInBounds_toArray, List.set_cons_zero, List.set_cons_succ]
    refine tk 1 (opN rfl) (by kernel_rfl) (by rfl) (by (intro w hSw; (try dsimp only at hSw); go_simp; first | done | with_reducible rfl)) (by assumption) ?_
    try simp only [Act.put, List.setIfInBounds_toArray, List.set_cons_zero, List.set_cons_succ]
    refine tk 2 (opN rfl) (by kernel_rfl) (by rfl) (by (intro w hSw; (try dsimp only at hSw); go_simp; first | done | with_reducible rfl)) (by assumption) ?_
    try simp only [Act.put, List.setIfInBounds_toArray, List.set_cons_zero, List.set_cons_succ]
    refine tk 3 (opN rfl) (by kernel_rfl) (by rfl) (by (intro w hSw; (try dsimp only at hSw); go_simp; first | done | with_reducible rfl)) (by assumption) ?_
    try simp only [Act.put, List.setIfInBounds_toArray, List.set_cons_zero, List.set_cons_succ]
    refine wpAnyH_ready (rs := [4, 8]) (by kernel_rfl) (by simp) ?_
    refine (AllReadyH.cons (opN rfl) (fun K hK => ?_) (AllReadyH.cons (opN rfl) (fun K hK => ?_) AllReadyH.nil))
    · go_simp
      go_at_call 95
      refine Calls.mono (C_spec_l1Below _ (w.heap.size + 1) (List.length l) (by first | exact hc4 | exact hc4.drew) (by omega) (by omega)) ?_
      rintro e w5 ⟨hd4, hc4, k4, rfl, hk0, hk1⟩
      have z4 := hd4.size
      (try simp only [World.size_alloc, World.size_setCell, World.size_drew, size_drewN] at z4)
      have E4 : Dr (w.heap.size + 1) w4 w5 := by first | exact hd4 | exact (Dr.drew (Dr.refl _ _)).trans hd4
      obtain ⟨k, rfl⟩ : ∃ k : Nat, k4 = k := ⟨k4.toNat, by omega⟩
      have hkl : k < l.length := by omega
      have Q5 := Q4.dr (E4) (by omega)
      obtain ⟨bb, ob, ds, hA, hdl, hcell, hrd⟩ := Ty.rd_at Q5.rd hkl
      obtain ⟨Ak, ck, rfl, -, hki⟩ := rd_Key hrd
      have ecell : w5.cell? ⟨bb, ob + k * 2 + 1, none⟩ = some (.int .i64 l[k].2) := by simpa [Ty.sz] using hcell 1 (by decide)
      have zb : bb < w5.heap.size := World.block_lt_of_cell? _ _ ecell
      have hi0 : (0 : Int) ≤ (k : Int) := by omega
      have hi1 : (k : Int) < (List.length l : Int) := by omega
      have hP5 := Dr.blk E4 hP4 (by omega)
      obtain ⟨m0, m1, m2, m3, m4, f0, f1, f2, f3, f4⟩ := blk5 hP5
      have zP5 := hP5.lt
      clear hcell hrd hdl
      subst hA
      clear hd4
      refine hK.out _ _ ?_ (fun hHeld => ?_)
      · (try dsimp only)
        try trivial
      clear hK K
      try simp only [Act.put, List.setIfInBounds_toArray, List.set_cons_zero, List.set_cons_succ]
      refine tk 5 (opN rfl) (by kernel_rfl) (by rfl) (by (intro w hSw; (try dsimp only at hSw); go_simp; first | done | with_reducible rfl)) (by assumption) ?_
      try simp only [Act.put, List.setIfInBounds_toArray, List.set_cons_zero, List.set_cons_succ]
      refine tk 6 (opN rfl) (by kernel_rfl) (by rfl) (by (intro w hSw; (try dsimp only at hSw); go_simp; first | done | with_reducible rfl)) (by assumption) ?_
      try simp only [Act.put, List.setIfInBounds_toArray, List.set_cons_zero, List.set_cons_succ]
      refine wpAnyH_ready (rs := [7, 8]) (by kernel_rfl) (by simp) ?_
      refine (AllReadyH.cons (opN rfl) (fun K hK => ?_) (AllReadyH.cons (opN rfl) (fun K hK => ?_) AllReadyH.nil))
      · go_simp
        refine hK.out _ _ ?_ (fun hHeld => ?_)
        · (try dsimp only)
          try trivial
        clear hK K
        try simp only [Act.put, List.setIfInBounds_toArray, List.set_cons_zero, List.set_cons_succ]
        refine wpAnyH_ready (rs := [8]) (by kernel_rfl) (by simp) ?_
        refine (AllReadyH.cons (opN rfl) (fun K hK => ?_) AllReadyH.nil)
        go_simp
        refine hK.out _ _ ?_ (fun hHeld => ?_)
        · (try dsimp only)
          try trivial
        clear hK K
        try simp only [Act.put, List.setIfInBounds_toArray, List.set_cons_zero, List.set_cons_succ]
        refine wpAnyH_ready (rs := [9]) (by kernel_rfl) (by simp) ?_
        refine (AllReadyH.cons (opN rfl) (fun K hK => ?_) AllReadyH.nil)
        go_simp
        go_at_call 96
        refine Calls.mono (C_spec_SignDataB _ l[k].2 _ x (X4.dr (by first | exact E4 | exact Dr.drew E4) (by omega)).rd hki (by omega)) ?_
        rintro e w6 ⟨cs6, fp6, rfl, how6, hfr6, hb6⟩
        have z6 := hb6.size
        (try simp only [World.size_alloc, World.size_setCell, World.size_drew, size_drewN] at z6)
        have hoky : okThing (f_SignData l[k].2 x) := hokx
        generalize f_SignData l[k].2 x = y at how6 hoky ⊢
        obtain ⟨B0, d0, B1, d1, B3, d3, rfl⟩ := ow_Data how6
        have Y6 := RdI.of_ow how6 (lo := w3.heap.size + 1) (hi := w6.heap.size) (fun q hq => ⟨by have := (hfr6.2 q hq).1; (try simp only [World.size_alloc, World.size_setCell, World.size_drew, size_drewN] at this); omega, (hfr6.2 q hq).2⟩) (Nat.le_refl _)
        have E6 : Dr (w.heap.size + 1) w5 w6 := by first | exact Dr.of hb6 _ | exact (Dr.drew (Dr.refl _ _)).trans (Dr.of hb6 _)
        have F6 : Dr (w.heap.size + 1) w4 w6 := E4.trans E6
        have hO6 := Dr.blk F6 hO4 (by omega)
        have hP6 := Dr.blk F6 hP4 (by omega)
        have Q6 := Q4.dr F6 (by omega)
        have D6 := Lib.hid (D4.out.trans F6)
        clear how6 hfr6 hb6
        refine hK.out _ _ ?_ (fun hHeld => ?_)
        · (try dsimp only)
          try trivial
        clear hK K
        try simp only [Act.put, List.setIfInBounds_toArray, List.set_cons_zero, List.set_cons_succ]
        refine wpAnyH_ready (rs := [10]) (by kernel_rfl) (by simp) ?_
        refine (AllReadyH.cons (opN rfl) (fun K hK => ?_) AllReadyH.nil)
        clear m0 m1 m2 m3 m4 f0 f1 f2 f3 f4
        (try clear n0 n1 n2 n3 n4)
        obtain ⟨m0, m1, m2, m3, m4, f0, f1, f2, f3, f4⟩ := blk5 hP6
        have zP6 := hP6.lt
        go_simp
        refine abs_world (fun w7 hw7 => ?_)
        obtain ⟨hP7, hK7, hs7, F7⟩ := stored5n (v0 := .slice B0 (List.length y.1) d0) (v1 := .slice B1 (List.length y.2.1) d1) (v2 := .slice B3 (List.length y.2.2.1) d3) (v3 := .int .i64 y.2.2.2.1) (v4 := .int .i64 y.2.2.2.2) hP6 (by first | (with_reducible exact .inl hw7) | (with_reducible exact .inr hw7))
        have D7 := Lib.hid (F7 w (w.heap.size + 1) (by omega) D6.out)
        have hO7 := (hK7 w.heap.size (by omega)).trans hO6
        have Q7 := Q6.keep hs7 (fun q h1 h2 => hK7 q (by omega))
        have Y7 := Y6.keep hs7 (fun q h1 h2 => hK7 q (by omega))
        have hO7 : Blk w7 w.heap.size 34 #[.slice none 0 0, .slice none 0 0, .slice none 0 0, .int .i64 0, .int .i64 0] := hO7
        clear hw7 hK7 F7 m0 m1 m2 m3 m4 f0 f1 f2 f3 f4
        refine hK.out _ _ ?_ (fun hHeld => ?_)
        · (try dsimp only)
          try trivial
        clear hK K
        try simp only [Act.put, List.setIfInBounds_toArray, List.set_cons_zero, List.set_cons_succ]
        refine wpAnyH_done (by kernel_rfl) ?_ _
        refine NoPanic.normal ?_
        obtain ⟨o0, o1, o2, o3, o4, q0, q1, q2, q3, q4⟩ := blk5 hO7
        have zO := hO7.lt
        obtain ⟨r0, r1, r2, r3, r4, -⟩ := blk5 (Blk.drew hP7)
        obtain ⟨s0, s1, s2, s3, s4, -⟩ := blk5 hP7
        go_wp2_with fail
        refine wp_region_noPanic ?_
        refine wp_region_held_drew (S := (fun V => V.cell? ⟨w3.heap.size, 0, none⟩ = some (.slice B0 (List.length y.1) d0) ∧ V.cell? ⟨w3.heap.size, 1, none⟩ = some (.slice B1 (List.length y.2.1) d1) ∧ V.cell? ⟨w3.heap.size, 2, none⟩ = some (.slice B3 (List.length y.2.2.1) d3) ∧ V.cell? ⟨w3.heap.size, 3, none⟩ = some (.int .i64 y.2.2.2.1) ∧ V.cell? ⟨w3.heap.size, 4, none⟩ = some (.int .i64 y.2.2.2.2))) (by kernel_rfl) ?_ (fun hHeld => ?_)
        · first | (with_reducible exact ⟨s0, s1, s2, s3, s4⟩) | (with_reducible exact ⟨r0, r1, r2, r3, r4⟩)
        refine tk 0 (opN rfl) (by kernel_rfl) (by rfl) (by (intro w hSw; (try dsimp only at hSw); go_simp; first | done | with_reducible rfl)) (by assumption) ?_
        try simp only [Act.put, List.setIfInBounds_toArray, List.set_cons_zero, List.set_cons_succ]
        refine tk 1 (opN rfl) (by kernel_rfl) (by rfl) (by (intro w hSw; (try dsimp only at hSw); go_simp; first | done | with_reducible rfl)) (by assumption) ?_
        try simp only [Act.put, List.setIfInBounds_toArray, List.set_cons_zero, List.set_cons_succ]
        refine tk 2 (opN rfl) (by kernel_rfl) (by rfl) (by (intro w hSw; (try dsimp only at hSw); go_simp; first | done | with_reducible rfl)) (by assumption) ?_
        try simp only [Act.put, List.setIfInBounds_toArray, List.set_cons_zero, List.set_cons_succ]
        refine wpAnyH_ready (rs := [3]) (by kernel_rfl) (by simp) ?_
        refine (AllReadyH.cons (opN rfl) (fun K hK => ?_) AllReadyH.nil)
        go_simp
        refine abs_world (fun w9 hw9 => ?_)
        obtain ⟨hO9, hK9, hs9, F9⟩ := stored5n (v0 := .slice B0 (List.length y.1) d0) (v1 := .slice B1 (List.length y.2.1) d1) (v2 := .slice B3 (List.length y.2.2.1) d3) (v3 := .int .i64 y.2.2.2.1) (v4 := .int .i64 y.2.2.2.2) hO7 (by first | exact .inr hw9 | exact .inl hw9)
        have D9 := Lib.hid (F9 w (w.heap.size + 1) (Nat.le_refl _) D7.out)
        have hP9 : Blk w9 w3.heap.size 34 #[.slice B0 (List.length y.1) d0, .slice B1 (List.length y.2.1) d1, .slice B3 (List.length y.2.2.1) d3, .int .i64 y.2.2.2.1, .int .i64 y.2.2.2.2] := (hK9 _ (by omega)).trans hP7
        have Q9 := Q7.keep hs9 (fun q h1 h2 => hK9 q (by omega))
        have X9 := Y7.keep hs9 (fun q h1 h2 => hK9 q (by omega))
        clear hw9 hK9
        obtain ⟨p0, p1, p2, p3, p4, -⟩ := blk5 hP9
        refine hK.out _ _ ?_ (fun hHeld => ?_)
        · (try dsimp only)
          exact ⟨p0, p1, p2, p3, p4⟩
        clear hK K
        try simp only [Act.put, List.setIfInBounds_toArray, List.set_cons_zero, List.set_cons_succ]
        refine wpAnyH_done (by kernel_rfl) ?_ _
        refine NoPanic.normal ?_
        obtain ⟨o0, o1, o2, o3, o4, -⟩ := blk5 hO9
        go_wp2
        refine bodyPost_ret (v := .tuple #[.slice (some ⟨bb, ob, none⟩) (List.length l) c2, .agg #[.slice B0 (List.length y.1) d0, .slice B1 (List.length y.2.1) d1, .slice B3 (List.length y.2.2.1) d3, .int .i64 y.2.2.2.1, .int .i64 y.2.2.2.2]]) (by simp [results, Tryz.results97, go_sem, o0, o1, o2, o3, o4]) rfl ?_
        exact ⟨_, l, _, _, y, rfl, Q9.mono (by omega) Q9.1 (Nat.le_refl _), X9.mono (by omega) X9.1 (Nat.le_refl _), HOKL.out, hoky, Dr.below D9.out (by omega) (Nat.le_refl _)⟩
      · go_simp
        refine hK.out _ _ ?_ (fun hHeld => ?_)
        · (try dsimp only)
          try trivial
        clear hK K
        try simp only [Act.put, List.setIfInBounds_toArray, List.set_cons_zero, List.set_cons_succ]
        refine wpAnyH_ready (rs := [7]) (by kernel_rfl) (by simp) ?_
        refine (AllReadyH.cons (opN rfl) (fun K hK => ?_) AllReadyH.nil)
        go_simp
        refine hK.out _ _ ?_ (fun hHeld => ?_)
        · (try dsimp only)
          try trivial
        clear hK K
        try simp only [Act.put, List.setIfInBounds_toArray, List.set_cons_zero, List.set_cons_succ]
        refine wpAnyH_ready (rs := [9]) (by kernel_rfl) (by simp) ?_
        refine (AllReadyH.cons (opN rfl) (fun K hK => ?_) AllReadyH.nil)
        go_simp
        go_at_call 96
        refine Calls.mono (C_spec_SignDataB _ l[k].2 _ x (X4.dr (by first | exact E4 | exact Dr.drew E4) (by omega)).rd hki (by omega)) ?_
        rintro e w6 ⟨cs6, fp6, rfl, how6, hfr6, hb6⟩
        have z6 := hb6.size
        (try simp only [World.size_alloc, World.size_setCell, World.size_drew, size_drewN] at z6)
        have hoky : okThing (f_SignData l[k].2 x) := hokx
        generalize f_SignData l[k].2 x = y at how6 hoky ⊢
        obtain ⟨B0, d0, B1, d1, B3, d3, rfl⟩ := ow_Data how6
        have Y6 := RdI.of_ow how6 (lo := w3.heap.size + 1) (hi := w6.heap.size) (fun q hq => ⟨by have := (hfr6.2 q hq).1; (try simp only [World.size_alloc, World.size_setCell, World.size_drew, size_drewN] at this); omega, (hfr6.2 q hq).2⟩) (Nat.le_refl _)
        have E6 : Dr (w.heap.size + 1) w5 w6 := by first | exact Dr.of hb6 _ | exact (Dr.drew (Dr.refl _ _)).trans (Dr.of hb6 _)
        have F6 : Dr (w.heap.size + 1) w4 w6 := E4.trans E6
        have hO6 := Dr.blk F6 hO4 (by omega)
        have hP6 := Dr.blk F6 hP4 (by omega)
        have Q6 := Q4.dr F6 (by omega)
        have D6 := Lib.hid (D4.out.trans F6)
        clear how6 hfr6 hb6
        refine hK.out _ _ ?_ (fun hHeld => ?_)
        · (try dsimp only)
          try trivial
        clear hK K
        try simp only [Act.put, List.setIfInBounds_toArray, List.set_cons_zero, List.set_cons_succ]
        refine wpAnyH_ready (rs := [10]) (by kernel_rfl) (by simp) ?_
        refine (AllReadyH.cons (opN rfl) (fun K hK => ?_) AllReadyH.nil)
        clear m0 m1 m2 m3 m4 f0 f1 f2 f3 f4
        (try clear n0 n1 n2 n3 n4)
        obtain ⟨m0, m1, m2, m3, m4, f0, f1, f2, f3, f4⟩ := blk5 hP6
        have zP6 := hP6.lt
        go_simp
        refine abs_world (fun w7 hw7 => ?_)
        obtain ⟨hP7, hK7, hs7, F7⟩ := stored5n (v0 := .slice B0 (List.length y.1) d0) (v1 := .slice B1 (List.length y.2.1) d1) (v2 := .slice B3 (List.length y.2.2.1) d3) (v3 := .int .i64 y.2.2.2.1) (v4 := .int .i64 y.2.2.2.2) hP6 (by first | (with_reducible exact .inl hw7) | (with_reducible exact .inr hw7))
        have D7 := Lib.hid (F7 w (w.heap.size + 1) (by omega) D6.out)
        have hO7 := (hK7 w.heap.size (by omega)).trans hO6
        have Q7 := Q6.keep hs7 (fun q h1 h2 => hK7 q (by omega))
        have Y7 := Y6.keep hs7 (fun q h1 h2 => hK7 q (by omega))
        have hO7 : Blk w7 w.heap.size 34 #[.slice none 0 0, .slice none 0 0, .slice none 0 0, .int .i64 0, .int .i64 0] := hO7
        clear hw7 hK7 F7 m0 m1 m2 m3 m4 f0 f1 f2 f3 f4
        refine hK.out _ _ ?_ (fun hHeld => ?_)
        · (try dsimp only)
          try trivial
        clear hK K
        try simp only [Act.put, List.setIfInBounds_toArray, List.set_cons_zero, List.set_cons_succ]
        refine wpAnyH_done (by kernel_rfl) ?_ _
        refine NoPanic.normal ?_
        obtain ⟨o0, o1, o2, o3, o4, q0, q1, q2, q3, q4⟩ := blk5 hO7
        have zO := hO7.lt
        obtain ⟨r0, r1, r2, r3, r4, -⟩ := blk5 (Blk.drew hP7)
        obtain ⟨s0, s1, s2, s3, s4, -⟩ := blk5 hP7
        go_wp2_with fail
        refine wp_region_noPanic ?_
        refine wp_region_held_drew (S := (fun V => V.cell? ⟨w3.heap.size, 0, none⟩ = some (.slice B0 (List.length y.1) d0) ∧ V.cell? ⟨w3.heap.size, 1, none⟩ = some (.slice B1 (List.length y.2.1) d1) ∧ V.cell? ⟨w3.heap.size, 2, none⟩ = some (.slice B3 (List.length y.2.2.1) d3) ∧ V.cell? ⟨w3.heap.size, 3, none⟩ = some (.int .i64 y.2.2.2.1) ∧ V.cell? ⟨w3.heap.size, 4, none⟩ = some (.int .i64 y.2.2.2.2))) (by kernel_rfl) ?_ (fun hHeld => ?_)
        · first | (with_reducible exact ⟨s0, s1, s2, s3, s4⟩) | (with_reducible exact ⟨r0, r1, r2, r3, r4⟩)
        refine tk 0 (opN rfl) (by kernel_rfl) (by rfl) (by (intro w hSw; (try dsimp only at hSw); go_simp; first | done | with_reducible rfl)) (by assumption) ?_
        try simp only [Act.put, List.setIfInBounds_toArray, List.set_cons_zero, List.set_cons_succ]
        refine tk 1 (opN rfl) (by kernel_rfl) (by rfl) (by (intro w hSw; (try dsimp only at hSw); go_simp; first | done | with_reducible rfl)) (by assumption) ?_
        try simp only [Act.put, List.setIfInBounds_toArray, List.set_cons_zero, List.set_cons_succ]
        refine tk 2 (opN rfl) (by kernel_rfl) (by rfl) (by (intro w hSw; (try dsimp only at hSw); go_simp; first | done | with_reducible rfl)) (by assumption) ?_
        try simp only [Act.put, List.setIfInBounds_toArray, List.set_cons_zero, List.set_cons_succ]
        refine wpAnyH_ready (rs := [3]) (by kernel_rfl) (by simp) ?_
        refine (AllReadyH.cons (opN rfl) (fun K hK => ?_) AllReadyH.nil)
        go_simp
        refine abs_world (fun w9 hw9 => ?_)
        obtain ⟨hO9, hK9, hs9, F9⟩ := stored5n (v0 := .slice B0 (List.length y.1) d0) (v1 := .slice B1 (List.length y.2.1) d1) (v2 := .slice B3 (List.length y.2.2.1) d3) (v3 := .int .i64 y.2.2.2.1) (v4 := .int .i64 y.2.2.2.2) hO7 (by first | exact .inr hw9 | exact .inl hw9)
        have D9 := Lib.hid (F9 w (w.heap.size + 1) (Nat.le_refl _) D7.out)
        have hP9 : Blk w9 w3.heap.size 34 #[.slice B0 (List.length y.1) d0, .slice B1 (List.length y.2.1) d1, .slice B3 (List.length y.2.2.1) d3, .int .i64 y.2.2.2.1, .int .i64 y.2.2.2.2] := (hK9 _ (by omega)).trans hP7
        have Q9 := Q7.keep hs9 (fun q h1 h2 => hK9 q (by omega))
        have X9 := Y7.keep hs9 (fun q h1 h2 => hK9 q (by omega))
        clear hw9 hK9
        obtain ⟨p0, p1, p2, p3, p4, -⟩ := blk5 hP9
        refine hK.out _ _ ?_ (fun hHeld => ?_)
        · (try dsimp only)
          exact ⟨p0, p1, p2, p3, p4⟩
        clear hK K
        try simp only [Act.put, List.setIfInBounds_toArray, List.set_cons_zero, List.set_cons_succ]
        refine wpAnyH_done (by kernel_rfl) ?_ _
        refine NoPanic.normal ?_
        obtain ⟨o0, o1, o2, o3, o4, -⟩ := blk5 hO9
        go_wp2
        refine bodyPost_ret (v := .tuple #[.slice (some ⟨bb, ob, none⟩) (List.length l) c2, .agg #[.slice B0 (List.length y.1) d0, .slice B1 (List.length y.2.1) d1, .slice B3 (List.length y.2.2.1) d3, .int .i64 y.2.2.2.1, .int .i64 y.2.2.2.2]]) (by simp [results, Tryz.results97, go_sem, o0, o1, o2, o3, o4]) rfl ?_
        exact ⟨_, l, _, _, y, rfl, Q9.mono (by omega) Q9.1 (Nat.le_refl _), X9.mono (by omega) X9.1 (Nat.le_refl _), HOKL.out, hoky, Dr.below D9.out (by omega) (Nat.le_refl _)⟩
    · obtain ⟨n0, n1, n2, n3, n4, -⟩ := blk5 hP4
      go_simp
      refine hK.out _ _ ?_ (fun hHeld => ?_)
      · (try dsimp only)
        try trivial
      clear hK K
      try simp only [Act.put, List.setIfInBounds_toArray, List.set_cons_zero, List.set_cons_succ]
      refine wpAnyH_ready (rs := [4]) (by kernel_rfl) (by simp) ?_
      refine (AllReadyH.cons (opN rfl) (fun K hK => ?_) AllReadyH.nil)
      go_simp
      go_at_call 95
      refine Calls.mono (C_spec_l1Below _ (w.heap.size + 1) (List.length l) (by first | exact hc4 | exact hc4.drew) (by omega) (by omega)) ?_
      rintro e w5 ⟨hd4, hc4, k4, rfl, hk0, hk1⟩
      have z4 := hd4.size
      (try simp only [World.size_alloc, World.size_setCell, World.size_drew, size_drewN] at z4)
      have E4 : Dr (w.heap.size + 1) w4 w5 := by first | exact hd4 | exact (Dr.drew (Dr.refl _ _)).trans hd4
      obtain ⟨k, rfl⟩ : ∃ k : Nat, k4 = k := ⟨k4.toNat, by omega⟩
      have hkl : k < l.length := by omega
      have Q5 := Q4.dr (E4) (by omega)
      obtain ⟨bb, ob, ds, hA, hdl, hcell, hrd⟩ := Ty.rd_at Q5.rd hkl
      obtain ⟨Ak, ck, rfl, -, hki⟩ := rd_Key hrd
      have ecell : w5.cell? ⟨bb, ob + k * 2 + 1, none⟩ = some (.int .i64 l[k].2) := by simpa [Ty.sz] using hcell 1 (by decide)
      have zb : bb < w5.heap.size := World.block_lt_of_cell? _ _ ecell
      have hi0 : (0 : Int) ≤ (k : Int) := by omega
      have hi1 : (k : Int) < (List.length l : Int) := by omega
      have hP5 := Dr.blk E4 hP4 (by omega)
      obtain ⟨m0, m1, m2, m3, m4, f0, f1, f2, f3, f4⟩ := blk5 hP5
      have zP5 := hP5.lt
      clear hcell hrd hdl
      subst hA
      clear hd4
      refine hK.out _ _ ?_ (fun hHeld => ?_)
      · (try dsimp only)
        try trivial
      clear hK K
      try simp only [Act.put, List.setIfInBounds_toArray, List.set_cons_zero, List.set_cons_succ]
      refine tk 5 (opN rfl) (by kernel_rfl) (by rfl) (by (intro w hSw; (try dsimp only at hSw); go_simp; first | done | with_reducible rfl)) (by assumption) ?_
      try simp only [Act.put, List.setIfInBounds_toArray, List.set_cons_zero, List.set_cons_succ]
      refine tk 6 (opN rfl) (by kernel_rfl) (by rfl) (by (intro w hSw; (try dsimp only at hSw); go_simp; first | done | with_reducible rfl)) (by assumption) ?_
      try simp only [Act.put, List.setIfInBounds_toArray, List.set_cons_zero, List.set_cons_succ]
      refine wpAnyH_ready (rs := [7]) (by kernel_rfl) (by simp) ?_
      refine (AllReadyH.cons (opN rfl) (fun K hK => ?_) AllReadyH.nil)
      go_simp
      refine hK.out _ _ ?_ (fun hHeld => ?_)
      · (try dsimp only)
        try trivial
      clear hK K
      try simp only [Act.put, List.setIfInBounds_toArray, List.set_cons_zero, List.set_cons_succ]
      refine wpAnyH_ready (rs := [9]) (by kernel_rfl) (by simp) ?_
      refine (AllReadyH.cons (opN rfl) (fun K hK => ?_) AllReadyH.nil)
      go_simp
      go_at_call 96
      refine Calls.mono (C_spec_SignDataB _ l[k].2 _ x (X4.dr (by first | exact E4 | exact Dr.drew E4) (by omega)).rd hki (by omega)) ?_
      rintro e w6 ⟨cs6, fp6, rfl, how6, hfr6, hb6⟩
      have z6 := hb6.size
      (try simp only [World.size_alloc, World.size_setCell, World.size_drew, size_drewN] at z6)
      have hoky : okThing (f_SignData l[k].2 x) := hokx
      generalize f_SignData l[k].2 x = y at how6 hoky ⊢
      obtain ⟨B0, d0, B1, d1, B3, d3, rfl⟩ := ow_Data how6
      have Y6 := RdI.of_ow how6 (lo := w3.heap.size + 1) (hi := w6.heap.size) (fun q hq => ⟨by have := (hfr6.2 q hq).1; (try simp only [World.size_alloc, World.size_setCell, World.size_drew, size_drewN] at this); omega, (hfr6.2 q hq).2⟩) (Nat.le_refl _)
      have E6 : Dr (w.heap.size + 1) w5 w6 := by first | exact Dr.of hb6 _ | exact (Dr.drew (Dr.refl _ _)).trans (Dr.of hb6 _)
      have F6 : Dr (w.heap.size + 1) w4 w6 := E4.trans E6
      have hO6 := Dr.blk F6 hO4 (by omega)
      have hP6 := Dr.blk F6 hP4 (by omega)
      have Q6 := Q4.dr F6 (by omega)
      have D6 := Lib.hid (D4.out.trans F6)
      clear how6 hfr6 hb6
      refine hK.out _ _ ?_ (fun hHeld => ?_)
      · (try dsimp only)
        try trivial
      clear hK K
      try simp only [Act.put, List.setIfInBounds_toArray, List.set_cons_zero, List.set_cons_succ]
      refine wpAnyH_ready (rs := [10]) (by kernel_rfl) (by simp) ?_
      refine (AllReadyH.cons (opN rfl) (fun K hK => ?_) AllReadyH.nil)
      clear m0 m1 m2 m3 m4 f0 f1 f2 f3 f4
      (try clear n0 n1 n2 n3 n4)
      obtain ⟨m0, m1, m2, m3, m4, f0, f1, f2, f3, f4⟩ := blk5 hP6
      have zP6 := hP6.lt
      go_simp
      refine abs_world (fun w7 hw7 => ?_)
      obtain ⟨hP7, hK7, hs7, F7⟩ := stored5n (v0 := .slice B0 (List.length y.1) d0) (v1 := .slice B1 (List.length y.2.1) d1) (v2 := .slice B3 (List.length y.2.2.1) d3) (v3 := .int .i64 y.2.2.2.1) (v4 := .int .i64 y.2.2.2.2) hP6 (by first | (with_reducible exact .inl hw7) | (with_reducible exact .inr hw7))
      have D7 := Lib.hid (F7 w (w.heap.size + 1) (by omega) D6.out)
      have hO7 := (hK7 w.heap.size (by omega)).trans hO6
      have Q7 := Q6.keep hs7 (fun q h1 h2 => hK7 q (by omega))
      have Y7 := Y6.keep hs7 (fun q h1 h2 => hK7 q (by omega))
      have hO7 : Blk w7 w.heap.size 34 #[.slice none 0 0, .slice none 0 0, .slice none 0 0, .int .i64 0, .int .i64 0] := hO7
      clear hw7 hK7 F7 m0 m1 m2 m3 m4 f0 f1 f2 f3 f4
      refine hK.out _ _ ?_ (fun hHeld => ?_)
      · (try dsimp only)
        try trivial
      clear hK K
      try simp only [Act.put, List.setIfInBounds_toArray, List.set_cons_zero, List.set_cons_succ]
      refine wpAnyH_done (by kernel_rfl) ?_ _
      refine NoPanic.normal ?_
      obtain ⟨o0, o1, o2, o3, o4, q0, q1, q2, q3, q4⟩ := blk5 hO7
      have zO := hO7.lt
      obtain ⟨r0, r1, r2, r3, r4, -⟩ := blk5 (Blk.drew hP7)
      obtain ⟨s0, s1, s2, s3, s4, -⟩ := blk5 hP7
      go_wp2_with fail
      refine wp_region_noPanic ?_
      refine wp_region_held_drew (S := (fun V => V.cell? ⟨w3.heap.size, 0, none⟩ = some (.slice B0 (List.length y.1) d0) ∧ V.cell? ⟨w3.heap.size, 1, none⟩ = some (.slice B1 (List.length y.2.1) d1) ∧ V.cell? ⟨w3.heap.size, 2, none⟩ = some (.slice B3 (List.length y.2.2.1) d3) ∧ V.cell? ⟨w3.heap.size, 3, none⟩ = some (.int .i64 y.2.2.2.1) ∧ V.cell? ⟨w3.heap.size, 4, none⟩ = some (.int .i64 y.2.2.2.2))) (by kernel_rfl) ?_ (fun hHeld => ?_)
      · first | (with_reducible exact ⟨s0, s1, s2, s3, s4⟩) | (with_reducible exact ⟨r0, r1, r2, r3, r4⟩)
      refine tk 0 (opN rfl) (by kernel_rfl) (by rfl) (by (intro w hSw; (try dsimp only at hSw); go_simp; first | done | with_reducible rfl)) (by assumption) ?_
      try simp only [Act.put, List.setIfInBounds_toArray, List.set_cons_zero, List.set_cons_succ]
      refine tk 1 (opN rfl) (by kernel_rfl) (by rfl) (by (intro w hSw; (try dsimp only at hSw); go_simp; first | done | with_reducible rfl)) (by assumption) ?_
      try simp only [Act.put, List.setIfInBounds_toArray, List.set_cons_zero, List.set_cons_succ]
      refine tk 2 (opN rfl) (by kernel_rfl) (by rfl) (by (intro w hSw; (try dsimp only at hSw); go_simp; first | done | with_reducible rfl)) (by assumption) ?_
      try simp only [Act.put, List.setIfInBounds_toArray, List.set_cons_zero, List.set_cons_succ]
      refine wpAnyH_ready (rs := [3]) (by kernel_rfl) (by simp) ?_
      refine (AllReadyH.cons (opN rfl) (fun K hK => ?_) AllReadyH.nil)
      go_simp
      refine abs_world (fun w9 hw9 => ?_)
      obtain ⟨hO9, hK9, hs9, F9⟩ := stored5n (v0 := .slice B0 (List.length y.1) d0) (v1 := .slice B1 (List.length y.2.1) d1) (v2 := .slice B3 (List.length y.2.2.1) d3) (v3 := .int .i64 y.2.2.2.1) (v4 := .int .i64 y.2.2.2.2) hO7 (by first | exact .inr hw9 | exact .inl hw9)
      have D9 := Lib.hid (F9 w (w.heap.size + 1) (Nat.le_refl _) D7.out)
      have hP9 : Blk w9 w3.heap.size 34 #[.slice B0 (List.length y.1) d0, .slice B1 (List.length y.2.1) d1, .slice B3 (List.length y.2.2.1) d3, .int .i64 y.2.2.2.1, .int .i64 y.2.2.2.2] := (hK9 _ (by omega)).trans hP7
      have Q9 := Q7.keep hs9 (fun q h1 h2 => hK9 q (by omega))
      have X9 := Y7.keep hs9 (fun q h1 h2 => hK9 q (by omega))
      clear hw9 hK9
      obtain ⟨p0, p1, p2, p3, p4, -⟩ := blk5 hP9
      refine hK.out _ _ ?_ (fun hHeld => ?_)
      · (try dsimp only)
        exact ⟨p0, p1, p2, p3, p4⟩
      clear hK K
      try simp only [Act.put, List.setIfInBounds_toArray, List.set_cons_zero, List.set_cons_succ]
      refine wpAnyH_done (by kernel_rfl) ?_ _
      refine NoPanic.normal ?_
      obtain ⟨o0, o1, o2, o3, o4, -⟩ := blk5 hO9
      go_wp2
      refine bodyPost_ret (v := .tuple #[.slice (some ⟨bb, ob, none⟩) (List.length l) c2, .agg #[.slice B0 (List.length y.1) d0, .slice B1 (List.length y.2.1) d1, .slice B3 (List.length y.2.2.1) d3, .int .i64 y.2.2.2.1, .int .i64 y.2.2.2.2]]) (by simp [results, Tryz.results97, go_sem, o0, o1, o2, o3, o4]) rfl ?_
      exact ⟨_, l, _, _, y, rfl, Q9.mono (by omega) Q9.1 (Nat.le_refl _), X9.mono (by omega) X9.1 (Nat.le_refl _), HOKL.out, hoky, Dr.below D9.out (by omega) (Nat.le_refl _)⟩
set_option maxRecDepth 100000 in
set_option maxHeartbeats 2000000 in
theorem C_spec_DrawVerifySignature (w : World) (v : Value) (b : List UInt8) (h : (Ty.sl .byte).rd w [v] b) :
    Calls Tryz.prog 37 #[v] w (fun e w' => ∃ A l c cs x, e = .returned (.tuple #[.slice A (List.length l) c, .agg cs.toArray]) ∧ RdI (.sl tKey) w.heap.size w'.heap.size w' [.slice A (List.length l) c] l ∧ RdI tData w.heap.size w'.heap.size w' cs x ∧ okKeys l ∧ okThing x ∧ Below w.heap.size w w') := by
  obtain ⟨Ac, cc, rfl, _, _, _⟩ := Ty.rd_sl h
  go_enter Tryz.func37, Tryz.ntmps37
  go_wp2_with fail
  refine Calls.mono (C_spec_l9Pair _ _ b (Ty.rd_below (by repeat' (first | (with_reducible exact Below.refl _ _) | (with_reducible assumption) | (with_reducible refine bel_set ?_ (by (try dsimp only); omega) _) | (with_reducible refine bel_alloc ?_ _) | (with_reducible refine bel_drewN ?_ _) | (with_reducible refine bel_drew ?_))) h)) ?_
  rintro e w1 ⟨A, l, c, cs, x, rfl, hl, hx, hokl, hokx, hb1⟩
  obtain ⟨A0, c0, A1, c1, A3, c3, rfl, g0, g1, g2, g3, g4⟩ := rd_Data hx.rd
  have z1 := hb1.size
  have hO : Blk w1 w.heap.size 34 #[.slice none 0 0, .slice none 0 0, .slice none 0 0, .int .i64 0, .int .i64 0] := (Blk.new w _ _).below hb1 (by simp only [World.size_alloc]; omega)
  obtain ⟨o0, o1, o2, o3, o4, q0, q1, q2, q3, q4⟩ := blk5 hO
  have zO := hO.lt
  go_wp2_with fail
  obtain ⟨w9, hw9⟩ : ∃ w9, w9 = (((((w1.setCell ⟨w.heap.size, 0, none⟩ (.slice A0 (List.length x.1) c0)).setCell ⟨w.heap.size, 1, none⟩ (.slice A1 (List.length x.2.1) c1)).setCell ⟨w.heap.size, 2, none⟩ (.slice A3 (List.length x.2.2.1) c3)).setCell ⟨w.heap.size, 3, none⟩ (.int .i64 x.2.2.2.1)).setCell ⟨w.heap.size, 4, none⟩ (.int .i64 x.2.2.2.2)) := ⟨_, rfl⟩
  obtain ⟨hO9, hK9, hs9, F9⟩ := stored5n (v0 := .slice A0 (List.length x.1) c0) (v1 := .slice A1 (List.length x.2.1) c1) (v2 := .slice A3 (List.length x.2.2.1) c3) (v3 := .int .i64 x.2.2.2.1) (v4 := .int .i64 x.2.2.2.2) hO (.inl hw9)
  have hb9 : Below w.heap.size w w9 := (F9 w (w9.heap.size) (Nat.le_refl _) (Dr.of (bel_trans (by repeat' (first | (with_reducible exact Below.refl _ _) | (with_reducible assumption) | (with_reducible refine bel_set ?_ (by (try dsimp only); omega) _) | (with_reducible refine bel_alloc ?_ _) | (with_reducible refine bel_drewN ?_ _) | (with_reducible refine bel_drew ?_))) hb1) _)).below (by omega) (Nat.le_refl _)
  rw [← hw9]
  obtain ⟨o0, o1, o2, o3, o4, -⟩ := blk5 hO9
  refine bodyPost_ret (v := .tuple #[.slice A (List.length l) c, .agg #[.slice A0 (List.length x.1) c0, .slice A1 (List.length x.2.1) c1, .slice A3 (List.length x.2.2.1) c3, .int .i64 x.2.2.2.1, .int .i64 x.2.2.2.2]]) (by simp [results, Tryz.results37, go_sem, o0, o1, o2, o3, o4]) rfl ?_
  rw [World.size_alloc] at hl hx
  have hl9 := hl.keep hs9 (fun q h1 h2 => hK9 q (by omega))
  have hx9 := hx.keep hs9 (fun q h1 h2 => hK9 q (by omega))
  exact ⟨_, l, _, _, x, rfl, hl9.mono (by omega) hl9.1 (Nat.le_refl _), hx9.mono (by omega) hx9.1 (Nat.le_refl _), hokl, hokx, hb9⟩
end Go.Proofs.YtldgbnlcnlfmeaaGreat

/- What a key signs, drawn. Printed by gen68.py. -/
namespace Go.Proofs.YtldgbnlcnlfmeaaGreat
open Go.RowKit
set_option linter.unusedVariables false
set_option linter.unusedSimpArgs false

theorem stored1n {P W : World} {g : Nat} {t : TypeId} {a v : Value} (h : Blk P g t #[a]) (hw : W = P.setCell ⟨g, 0, none⟩ v ∨ W = (P.setCell ⟨g, 0, none⟩ v).drew) :
    Blk W g t #[v] ∧ (∀ q, q ≠ g → W.heap[q]? = P.heap[q]?) ∧ P.heap.size ≤ W.heap.size ∧ ∀ (w0 : World) (B : Nat), w0.heap.size ≤ g → Dr B w0 P → Dr B w0 W := by
  have hb : Blk (P.setCell ⟨g, 0, none⟩ v) g t #[v] := Blk.set_ h 0 v
  have hk : ∀ q, q ≠ g → (P.setCell ⟨g, 0, none⟩ v).heap[q]? = P.heap[q]? := fun q hq => Below.heap_setCell _ _ _ _ hq
  have hD : ∀ (w0 : World) (B : Nat), w0.heap.size ≤ g → Dr B w0 P → Dr B w0 (P.setCell ⟨g, 0, none⟩ v) := fun w0 B h0 hd => Dr.set hd (.inr h0) v
  rcases hw with rfl | rfl
  · exact ⟨hb, hk, by rw [World.size_setCell]; exact Nat.le_refl _, hD⟩
  · refine ⟨hb.drew, fun q hq => ?_, by rw [World.size_drew, World.size_setCell]; exact Nat.le_refl _, fun w0 B h0 hd => (hD w0 B h0 hd).drew⟩
    rw [show ∀ V : World, V.drew.heap = V.heap from fun _ => rfl]; exact hk q hq
theorem mem_till {s : Int} (h : s ∈ ([50, 60, -1] : List Int)) : -1 ≤ s ∧ s ≤ 60 := by
  simp at h; rcases h with rfl | rfl | rfl <;> decide
set_option maxRecDepth 100000 in
set_option maxHeartbeats 4000000 in
theorem C_spec_DrawSignWithKey (w : World) (v : Value) (b : List UInt8) (h : (Ty.sl .byte).rd w [v] b) :
    Calls Tryz.prog 35 #[v] w (fun e w' => ∃ A l c A1 n1 c1 A2 n2 c2 A3 s c3 t, e = .returned (.tuple #[.slice A (List.length l) c, .agg #[.slice A1 (List.length n1) c1], .agg #[.slice A2 (List.length n2) c2], .slice A3 (List.length s) c3, .int .i64 t]) ∧
      (Ty.sl tKey).rd w' [.slice A (List.length l) c] l ∧ (Ty.sl .str).rd w' [.slice A1 (List.length n1) c1] n1 ∧ (Ty.sl .str).rd w' [.slice A2 (List.length n2) c2] n2 ∧ (Ty.sl .byte).rd w' [.slice A3 (List.length s) c3] s ∧ okKeys l ∧ okAny n1 ∧ okAny n2 ∧ List.length s ≤ 3 ∧ (-1 ≤ t ∧ t ≤ 60) ∧ Below w.heap.size w w') := by
  obtain ⟨Ac, cc, rfl, _, _, _⟩ := Ty.rd_sl h
  go_enter Tryz.func35, Tryz.ntmps35
  go_wp2_with fail
  refine Calls.mono (C_spec_l1New _ _ b (Ty.rd_below (by repeat' (first | (with_reducible exact Below.refl _ _) | (with_reducible assumption) | (with_reducible refine bel_set ?_ (by (try dsimp only); omega) _) | (with_reducible refine bel_alloc ?_ _) | (with_reducible refine bel_drewN ?_ _) | (with_reducible refine bel_drew ?_))) h)) ?_
  rintro e w1 ⟨rfl, hb1, hc1⟩
  simp only [World.size_alloc] at hc1 ⊢
  have z1 := hc1.lt
  have hO1 : Blk w1 w.heap.size 32 #[.slice none 0 0] := ((Blk.new w _ _).alloc _).below hb1 (by simp only [World.size_alloc]; omega)
  have hP1 : Blk w1 (w.heap.size + 1) 32 #[.slice none 0 0] := (by have := Blk.new (w.alloc (.cells #[.slice none 0 0] 32)) 32 #[.slice none 0 0]; rw [World.size_alloc] at this; exact this.below hb1 (by simp only [World.size_alloc]; omega))
  have D1 : Dr (w.heap.size + 1 + 1) w w1 := Dr.of (bel_trans (by repeat' (first | (with_reducible exact Below.refl _ _) | (with_reducible assumption) | (with_reducible refine bel_set ?_ (by (try dsimp only); omega) _) | (with_reducible refine bel_alloc ?_ _) | (with_reducible refine bel_drewN ?_ _) | (with_reducible refine bel_drew ?_))) hb1) _
  clear hb1
  go_wp2_with fail
  refine Calls.mono (C_spec_l9Any _ (w.heap.size + 1 + 1) (by repeat' (first | (with_reducible assumption) | (with_reducible refine Cur.far ?_ (by (try dsimp only); omega) _) | (with_reducible refine Cur.alloc ?_ _) | (with_reducible refine Cur.drewN ?_ _) | (with_reducible refine Cur.drew ?_)))) ?_
  rintro e w2 ⟨hd2, hc2, A, l, c, rfl, hQ2, hokl⟩
  have D2 : Dr (w.heap.size + 1 + 1) w w2 := D1.trans hd2
  have z2 := hd2.size
  have HOKL := Lib.hid hokl
  have hO2 := Dr.blk hd2 hO1 (by omega)
  have hP2 := Dr.blk hd2 hP1 (by omega)
  clear hd2 hO1 hP1 D1 hc1 hokl
  go_wp2_with fail
  refine Calls.mono (C_spec_l1Str _ (w.heap.size + 1 + 1) _ [[47, 107, 101, 121, 47, 97], [47, 107, 101, 121, 47, 98], [47, 122, 122]] (by repeat' (first | (with_reducible assumption) | (with_reducible refine Cur.far ?_ (by (try dsimp only); omega) _) | (with_reducible refine Cur.alloc ?_ _) | (with_reducible refine Cur.drewN ?_ _) | (with_reducible refine Cur.drew ?_))) (by (repeat (with_reducible refine rd_drewH ?_)); exact rd_litsA (by rfl) (by decide) (by first | (with_reducible rfl) | simp only [World.size_drew] | simp only [World.size_alloc, World.size_drew, size_drewN]) (by rfl) (by rfl) (by decide) (by (try simp only [World.size_alloc, World.size_setCell, size_drewN, World.size_drew]); omega)) (by decide) (by decide)) ?_
  rintro e w3 ⟨hd3, hc3, s, hs, rfl⟩
  have hs3 := sgn3 hs
  have hsl := hs3.2
  have hokn := Lib.hid hs3.1
  have E3 : Dr (w.heap.size + 1 + 1) w2 w3 := (by repeat' (first | (with_reducible exact Dr.refl _ _) | (with_reducible assumption) | (with_reducible refine Dr.set ?_ (by (try dsimp only); omega) _) | (with_reducible refine Dr.alloc ?_ _) | (with_reducible refine Dr.drewN ?_ _) | (with_reducible refine Dr.drew ?_) | (with_reducible refine Dr.trans ?_ (by assumption))))
  have z3 := E3.size
  have D3 : Dr (w.heap.size + 1 + 1) w w3 := D2.trans E3
  have hO3 := Dr.blk E3 hO2 (by omega)
  have hP3 := Dr.blk E3 hP2 (by omega)
  have Q3 := hQ2.dr E3 (by omega)
  clear hd3 E3 D2 hO2 hP2 hQ2 hc2 hs hs3
  go_wp2_with fail
  refine Calls.mono (C_spec_l4Of _ s (by omega)) ?_
  rintro e w4 ⟨cs4, fp4, rfl, how4, hfr4, hb4⟩
  obtain ⟨A1, c1, rfl⟩ := Ty.ow_slv how4
  have z4 := hb4.size
  have D4 : Dr (w.heap.size + 1 + 1) w w4 := D3.then_ hb4
  have hc4 : CurT w4 (w.heap.size + 1 + 1) := Cur.below hc3 hb4
  have hO4 := hO3.below hb4 (by omega)
  have hP4 := hP3.below hb4 (by omega)
  have Q4 := Q3.below hb4
  have M4 := RdI.of_owF how4 hfr4 (Nat.le_refl _)
  clear D3 hO3 hP3 Q3 how4 hfr4 hb4 hc3
  generalize (pnS s).1 = n1 at M4 hokn ⊢
  go_wp2_with fail
  refine Calls.mono (C_spec_l4Any _ (w.heap.size + 1 + 1) (by repeat' (first | (with_reducible assumption) | (with_reducible refine Cur.far ?_ (by (try dsimp only); omega) _) | (with_reducible refine Cur.alloc ?_ _) | (with_reducible refine Cur.drewN ?_ _) | (with_reducible refine Cur.drew ?_)))) ?_
  rintro e w5 ⟨hd5, hc5, cs5, n2, rfl, hN5, hok2⟩
  obtain ⟨A2, c2, rfl⟩ := Ty.rd_slv hN5.rd
  have E5 : Dr (w.heap.size + 1 + 1) w4 w5 := (by repeat' (first | (with_reducible exact Dr.refl _ _) | (with_reducible assumption) | (with_reducible refine Dr.set ?_ (by (try dsimp only); omega) _) | (with_reducible refine Dr.alloc ?_ _) | (with_reducible refine Dr.drewN ?_ _) | (with_reducible refine Dr.drew ?_) | (with_reducible refine Dr.trans ?_ (by assumption))))
  have z5 := hd5.size
  simp only [World.size_alloc] at z5 hN5
  have D5 : Dr (w.heap.size + 1 + 1) w w5 := D4.trans E5
  have hO5 := Dr.blk E5 hO4 (by omega)
  have hP5 := Dr.blk E5 hP4 (by omega)
  have Q5 := Q4.dr E5 (by omega)
  have M5 := M4.dr E5 (by omega)
  have hG5 : Blk w5 w4.heap.size 32 #[.slice A1 (List.length n1) c1] := Dr.blk hd5 (Blk.new w4 _ _) (by omega)
  clear hd5 E5 D4 hO4 hP4 Q4 M4 hc4
  obtain ⟨WT, hWT⟩ : ∃ WT, WT = w5.alloc (.cells #[.slice A2 (List.length n2) c2] 32) := ⟨_, rfl⟩
  have ET : Dr (w.heap.size + 1 + 1) w5 WT := by rw [hWT]; exact new_dr _ _ _
  have CT : CurT WT (w.heap.size + 1 + 1) := by rw [hWT]; exact hc5.alloc _
  have hHT : Blk WT w5.heap.size 32 #[.slice A2 (List.length n2) c2] := by rw [hWT]; exact Blk.new _ _ _
  have DT_ := Lib.hid (D5.trans ET)
  have hOT := Dr.blk ET hO5 (by omega)
  have hPT := Dr.blk ET hP5 (by omega)
  have hGT := Dr.blk ET hG5 (by omega)
  have QT := Q5.dr ET (by omega)
  have MT := M5.dr ET (by omega)
  have NT_ := hN5.dr ET (by omega)
  have zT := hHT.lt
  have HC : Hid (∀ V, Dr (w.heap.size + 1 + 1) WT V → V.cell? ⟨w4.heap.size, 0, none⟩ = some (.slice A1 (List.length n1) c1) ∧ V.cell? ⟨w5.heap.size, 0, none⟩ = some (.slice A2 (List.length n2) c2)) := fun V hV => ⟨(Dr.blk hV hGT (by omega)).c1, (Dr.blk hV hHT (by omega)).c1⟩
  clear hO5 hP5 hG5 Q5 M5 hN5 D5 hc5 ET
  go_wp2_with fail
  rw [← hWT]
  clear hWT
  refine wp_region_noPanic ?_
  refine wp_region_held_drew (S := (fun V => V.cell? ⟨w4.heap.size, 0, none⟩ = some (.slice A1 (List.length n1) c1) ∧ V.cell? ⟨w5.heap.size, 0, none⟩ = some (.slice A2 (List.length n2) c2))) (by kernel_rfl) ?_ (fun hHeld => ?_)
  · exact HC.out _ (by repeat' (first | (with_reducible exact Dr.refl _ _) | (with_reducible assumption) | (with_reducible refine Dr.set ?_ (by (try dsimp only); omega) _) | (with_reducible refine Dr.alloc ?_ _) | (with_reducible refine Dr.drewN ?_ _) | (with_reducible refine Dr.drew ?_) | (with_reducible refine Dr.trans ?_ (by assumption))))
  refine tk 0 (opN rfl) (by kernel_rfl) (by rfl) (by (intro w hSw; (try dsimp only at hSw); go_simp; first | done | with_reducible rfl)) (by assumption) ?_
  try simp only [Act.put, List.setIfInBounds_toArray, List.set_cons_zero, List.set_cons_succ]
  refine tk 1 (opN rfl) (by kernel_rfl) (by rfl) (by (intro w hSw; (try dsimp only at hSw); go_simp; first | done | with_reducible rfl)) (by assumption) ?_
  try simp only [Act.put, List.setIfInBounds_toArray, List.set_cons_zero, List.set_cons_succ]
  refine tk 2 (opN rfl) (by kernel_rfl) (by rfl) (by (intro w hSw; (try dsimp only at hSw); go_simp; first | done | with_reducible rfl)) (by assumption) ?_
  try simp only [Act.put, List.setIfInBounds_toArray, List.set_cons_zero, List.set_cons_succ]
  refine tk 3 (opN rfl) (by kernel_rfl) (by rfl) (by (intro w hSw; (try dsimp only at hSw); go_simp; first | done | with_reducible rfl)) (by assumption) ?_
  try simp only [Act.put, List.setIfInBounds_toArray, List.set_cons_zero, List.set_cons_succ]
  refine tk 4 (opN rfl) (by kernel_rfl) (by rfl) (by (intro w hSw; (try dsimp only at hSw); go_simp; first | done | with_reducible rfl)) (by assumption) ?_
  try simp only [Act.put, List.setIfInBounds_toArray, List.set_cons_zero, List.set_cons_succ]
  refine tk 7 (opN rfl) (by kernel_rfl) (by rfl) (by (intro w hSw; (try dsimp only at hSw); go_simp; first | done | with_reducible rfl)) (by assumption) ?_
  try simp only [Act.put, List.setIfInBounds_toArray, List.set_cons_zero, List.set_cons_succ]
  refine wpAnyH_ready (rs := [5, 8]) (by kernel_rfl) (by simp) ?_
  refine (AllReadyH.cons (opN rfl) (fun K hK => ?_) (AllReadyH.cons (opN rfl) (fun K hK => ?_) AllReadyH.nil))
  · go_simp
    go_at_call 95
    refine Calls.mono (C_spec_l1Below _ (w.heap.size + 1 + 1) 4 (by first | exact CT | exact CT.drew) (by decide) (by decide)) ?_
    rintro e w55 ⟨hd5, hc5, xk, rfl, hx0, hx1⟩
    have z5 := hd5.size
    (try simp only [World.size_alloc, World.size_setCell, World.size_drew, size_drewN] at z5)
    have E5 : Dr (w.heap.size + 1 + 1) WT w55 := by first | exact hd5 | exact (Dr.drew (Dr.refl _ _)).trans hd5
    obtain ⟨ka, rfl⟩ : ∃ i : Nat, xk = i := ⟨xk.toNat, by omega⟩
    clear hd5
    refine hK.out _ _ ?_ (fun hHeld => ?_)
    · (try dsimp only)
      exact HC.out _ (by first | exact E5 | exact Dr.drew E5)
    clear hK K
    try simp only [Act.put, List.setIfInBounds_toArray, List.set_cons_zero, List.set_cons_succ]
    refine wpAnyH_ready (rs := [6, 8]) (by kernel_rfl) (by simp) ?_
    refine (AllReadyH.cons (opN rfl) (fun K hK => ?_) (AllReadyH.cons (opN rfl) (fun K hK => ?_) AllReadyH.nil))
    · go_simp
      go_at_call 94
      refine Calls.mono (C_spec_l1Bytes _ (w.heap.size + 1 + 1) ka (by first | exact hc5 | exact hc5.drew) (by omega)) ?_
      rintro e w6 ⟨hd6, hc6, A3, sb, c3, fp6, rfl, how6, hfr6, hlb⟩
      have z6 := hd6.size
      (try simp only [World.size_alloc, World.size_setCell, World.size_drew, size_drewN] at z6)
      have E6 : Dr (w.heap.size + 1 + 1) w55 w6 := by first | exact hd6 | exact (Dr.drew (Dr.refl _ _)).trans hd6
      subst hlb
      have HS6 := Lib.hid (show RdI (.sl .byte) (w.heap.size + 1 + 1 + 1) w6.heap.size w6 _ sb from RdI.of_ow how6 (fun q hq => ⟨by have := (hfr6.2 q hq).1; (try simp only [World.size_alloc, World.size_setCell, World.size_drew, size_drewN] at this); omega, (hfr6.2 q hq).2⟩) (Nat.le_refl _))
      clear how6 hfr6
      clear hd6
      refine hK.out _ _ ?_ (fun hHeld => ?_)
      · (try dsimp only)
        exact HC.out _ (by first | exact (E5.trans E6) | exact Dr.drew (E5.trans E6))
      clear hK K
      try simp only [Act.put, List.setIfInBounds_toArray, List.set_cons_zero, List.set_cons_succ]
      refine wpAnyH_ready (rs := [8]) (by kernel_rfl) (by simp) ?_
      refine (AllReadyH.cons (opN rfl) (fun K hK => ?_) AllReadyH.nil)
      go_simp
      refine abs_world (fun w8 hw8 => ?_)
      have E8 : Dr (w.heap.size + 1 + 1) w6 w8 := by rw [hw8]; first | exact new_dr (w.heap.size + 1 + 1) w6 _ | exact (new_dr (w.heap.size + 1 + 1) w6 _).drew
      have hc8 : CurT w8 (w.heap.size + 1 + 1) := by rw [hw8]; first | exact hc6.alloc _ | exact (hc6.alloc _).drew
      have z8 : w6.heap.size < w8.heap.size := by rw [hw8]; (try simp only [World.size_alloc, World.size_setCell, World.size_drew, size_drewN]); omega
      have HL8 := Lib.hid (show RdI (.sl .int) w6.heap.size (w6.heap.size + 1) w8 [.slice (some ⟨w6.heap.size, 0, none⟩) 3 3] [50, 60, -1] by rw [hw8]; first | exact (RdI.liti (by rfl) (by decide) (by first | (with_reducible rfl) | simp only [World.size_drew]) (by rfl) (by rfl) (by decide)) | exact RdI.drew (RdI.liti (by rfl) (by decide) (by first | (with_reducible rfl) | simp only [World.size_drew]) (by rfl) (by rfl) (by decide)))
      clear hw8
      refine hK.out _ _ ?_ (fun hHeld => ?_)
      · (try dsimp only)
        exact HC.out _ (by first | exact (E5.trans (E6.trans E8)) | exact Dr.drew (E5.trans (E6.trans E8)))
      clear hK K
      try simp only [Act.put, List.setIfInBounds_toArray, List.set_cons_zero, List.set_cons_succ]
      refine wpAnyH_ready (rs := [9]) (by kernel_rfl) (by simp) ?_
      refine (AllReadyH.cons (opN rfl) (fun K hK => ?_) AllReadyH.nil)
      go_simp
      go_at_call 64
      refine Calls.mono (C_spec_l1Int _ (w.heap.size + 1 + 1) _ [50, 60, -1] (by first | exact hc8 | exact hc8.drew) ((HL8.out.dr (B := w.heap.size + 1 + 1) (by first | exact (Dr.refl (w.heap.size + 1 + 1) w8) | exact Dr.drew (Dr.refl (w.heap.size + 1 + 1) w8)) (by omega)).hide (by omega)) (by decide) (by decide)) ?_
      rintro e w9 ⟨hd9, hc9, t, ht, rfl⟩
      have z9 := hd9.size
      (try simp only [World.size_alloc, World.size_setCell, World.size_drew, size_drewN] at z9)
      have E9 : Dr (w.heap.size + 1 + 1) w8 w9 := by first | exact hd9 | exact (Dr.drew (Dr.refl _ _)).trans hd9
      have htb := mem_till ht
      clear ht
      clear hd9
      refine hK.out _ _ ?_ (fun hHeld => ?_)
      · (try dsimp only)
        exact HC.out _ (by first | exact (E5.trans (E6.trans (E8.trans E9))) | exact Dr.drew (E5.trans (E6.trans (E8.trans E9))))
      clear hK K
      try simp only [Act.put, List.setIfInBounds_toArray, List.set_cons_zero, List.set_cons_succ]
      refine tk 10 (opN rfl) (by kernel_rfl) (by rfl) (by (intro w hSw; (try dsimp only at hSw); go_simp; first | done | with_reducible rfl)) (by assumption) ?_
      try simp only [Act.put, List.setIfInBounds_toArray, List.set_cons_zero, List.set_cons_succ]
      refine wpAnyH_ready (rs := [11]) (by kernel_rfl) (by simp) ?_
      refine (AllReadyH.cons (opN rfl) (fun K hK => ?_) AllReadyH.nil)
      have hO9 := Dr.blk (E5.trans (E6.trans (E8.trans E9))) hOT (by omega)
      have hP9 := Dr.blk (E5.trans (E6.trans (E8.trans E9))) hPT (by omega)
      have hG9 := Dr.blk (E5.trans (E6.trans (E8.trans E9))) hGT (by omega)
      have hH9 := Dr.blk (E5.trans (E6.trans (E8.trans E9))) hHT (by omega)
      have Q9 := QT.dr (E5.trans (E6.trans (E8.trans E9))) (by omega)
      have M9 := MT.dr (E5.trans (E6.trans (E8.trans E9))) (by omega)
      have N9 := NT_.dr (E5.trans (E6.trans (E8.trans E9))) (by omega)
      have S9 := HS6.out.dr (E8.trans E9) (by omega)
      have D9 := Lib.hid (DT_.out.trans (E5.trans (E6.trans (E8.trans E9))))
      have kk11 := hO9.c1
      have ff11 := hO9.f1 (i := 0)
      have zz11 := hO9.lt
      go_simp
      refine abs_world (fun w11 hw11 => ?_)
      obtain ⟨hO11, hK11, hs11, F11⟩ := stored1n (v := .slice A1 (List.length n1) c1) hO9 (by first | exact .inl hw11 | exact .inr hw11)
      have D11 := Lib.hid (F11 w (w.heap.size + 1 + 1) (Nat.le_refl _) D9.out)
      have hP11 : Blk w11 (w.heap.size + 1) 32 #[.slice none 0 0] := (hK11 _ (by omega)).trans hP9
      have hG11 : Blk w11 w4.heap.size 32 #[.slice A1 (List.length n1) c1] := (hK11 _ (by omega)).trans hG9
      have hH11 : Blk w11 w5.heap.size 32 #[.slice A2 (List.length n2) c2] := (hK11 _ (by omega)).trans hH9
      have Q11 := Q9.keep hs11 (fun q h1 h2 => hK11 q (by omega))
      have M11 := M9.keep hs11 (fun q h1 h2 => hK11 q (by omega))
      have N11 := N9.keep hs11 (fun q h1 h2 => hK11 q (by omega))
      have S11 := S9.keep hs11 (fun q h1 h2 => hK11 q (by omega))
      clear hw11 hK11 F11 kk11 ff11 zz11
      refine hK.out _ _ ?_ (fun hHeld => ?_)
      · (try dsimp only)
        exact ⟨hG11.c1, hH11.c1⟩
      clear hK K
      try simp only [Act.put, List.setIfInBounds_toArray, List.set_cons_zero, List.set_cons_succ]
      refine wpAnyH_ready (rs := [12]) (by kernel_rfl) (by simp) ?_
      refine (AllReadyH.cons (opN rfl) (fun K hK => ?_) AllReadyH.nil)
      have kk12 := hP11.c1
      have ff12 := hP11.f1 (i := 0)
      have zz12 := hP11.lt
      go_simp
      refine abs_world (fun w12 hw12 => ?_)
      obtain ⟨hP12, hK12, hs12, F12⟩ := stored1n (v := .slice A2 (List.length n2) c2) hP11 (by first | exact .inl hw12 | exact .inr hw12)
      have D12 := Lib.hid (F12 w (w.heap.size + 1 + 1) (by omega) D11.out)
      have hO12 : Blk w12 w.heap.size 32 #[.slice A1 (List.length n1) c1] := (hK12 _ (by omega)).trans hO11
      have hG12 : Blk w12 w4.heap.size 32 #[.slice A1 (List.length n1) c1] := (hK12 _ (by omega)).trans hG11
      have hH12 : Blk w12 w5.heap.size 32 #[.slice A2 (List.length n2) c2] := (hK12 _ (by omega)).trans hH11
      have Q12 := Q11.keep hs12 (fun q h1 h2 => hK12 q (by omega))
      have M12 := M11.keep hs12 (fun q h1 h2 => hK12 q (by omega))
      have N12 := N11.keep hs12 (fun q h1 h2 => hK12 q (by omega))
      have S12 := S11.keep hs12 (fun q h1 h2 => hK12 q (by omega))
      clear hw12 hK12 F12 kk12 ff12 zz12
      refine hK.out _ _ ?_ (fun hHeld => ?_)
      · (try dsimp only)
        exact ⟨hG12.c1, hH12.c1⟩
      clear hK K
      try simp only [Act.put, List.setIfInBounds_toArray, List.set_cons_zero, List.set_cons_succ]
      refine tk 13 (opN rfl) (by kernel_rfl) (by rfl) (by (intro w hSw; (try dsimp only at hSw); go_simp; first | done | with_reducible rfl)) (by assumption) ?_
      try simp only [Act.put, List.setIfInBounds_toArray, List.set_cons_zero, List.set_cons_succ]
      refine tk 14 (opN rfl) (by kernel_rfl) (by rfl) (by (intro w hSw; (try dsimp only at hSw); go_simp; first | done | with_reducible rfl)) (by assumption) ?_
      try simp only [Act.put, List.setIfInBounds_toArray, List.set_cons_zero, List.set_cons_succ]
      refine wpAnyH_done (by kernel_rfl) ?_ _
      refine NoPanic.normal ?_
      have o12 := hO12.c1
      have p12 := hP12.c1
      go_wp2
      refine bodyPost_ret (v := .tuple #[.slice A (List.length l) c, .agg #[.slice A1 (List.length n1) c1], .agg #[.slice A2 (List.length n2) c2], .slice A3 (List.length sb) c3, .int .i64 t]) (by simp [results, Tryz.results35, go_sem, o12, p12]) rfl ?_
      exact ⟨_, l, _, _, n1, _, _, n2, _, _, sb, _, t, rfl, Q12.rd, M12.rd, N12.rd, S12.rd, HOKL.out, hokn.out, hok2, by omega, htb, Dr.below D12.out (by omega) (Nat.le_refl _)⟩
    · go_simp
      refine abs_world (fun w8 hw8 => ?_)
      have E8 : Dr (w.heap.size + 1 + 1) w55 w8 := by rw [hw8]; first | exact new_dr (w.heap.size + 1 + 1) w55 _ | exact (new_dr (w.heap.size + 1 + 1) w55 _).drew
      have hc8 : CurT w8 (w.heap.size + 1 + 1) := by rw [hw8]; first | exact hc5.alloc _ | exact (hc5.alloc _).drew
      have z8 : w55.heap.size < w8.heap.size := by rw [hw8]; (try simp only [World.size_alloc, World.size_setCell, World.size_drew, size_drewN]); omega
      have HL8 := Lib.hid (show RdI (.sl .int) w55.heap.size (w55.heap.size + 1) w8 [.slice (some ⟨w55.heap.size, 0, none⟩) 3 3] [50, 60, -1] by rw [hw8]; first | exact (RdI.liti (by rfl) (by decide) (by first | (with_reducible rfl) | simp only [World.size_drew]) (by rfl) (by rfl) (by decide)) | exact RdI.drew (RdI.liti (by rfl) (by decide) (by first | (with_reducible rfl) | simp only [World.size_drew]) (by rfl) (by rfl) (by decide)))
      clear hw8
      refine hK.out _ _ ?_ (fun hHeld => ?_)
      · (try dsimp only)
        exact HC.out _ (by first | exact (E5.trans E8) | exact Dr.drew (E5.trans E8))
      clear hK K
      try simp only [Act.put, List.setIfInBounds_toArray, List.set_cons_zero, List.set_cons_succ]
      refine wpAnyH_ready (rs := [6]) (by kernel_rfl) (by simp) ?_
      refine (AllReadyH.cons (opN rfl) (fun K hK => ?_) AllReadyH.nil)
      go_simp
      go_at_call 94
      refine Calls.mono (C_spec_l1Bytes _ (w.heap.size + 1 + 1) ka (by first | exact hc8 | exact hc8.drew) (by omega)) ?_
      rintro e w6 ⟨hd6, hc6, A3, sb, c3, fp6, rfl, how6, hfr6, hlb⟩
      have z6 := hd6.size
      (try simp only [World.size_alloc, World.size_setCell, World.size_drew, size_drewN] at z6)
      have E6 : Dr (w.heap.size + 1 + 1) w8 w6 := by first | exact hd6 | exact (Dr.drew (Dr.refl _ _)).trans hd6
      subst hlb
      have HS6 := Lib.hid (show RdI (.sl .byte) (w.heap.size + 1 + 1 + 1) w6.heap.size w6 _ sb from RdI.of_ow how6 (fun q hq => ⟨by have := (hfr6.2 q hq).1; (try simp only [World.size_alloc, World.size_setCell, World.size_drew, size_drewN] at this); omega, (hfr6.2 q hq).2⟩) (Nat.le_refl _))
      clear how6 hfr6
      clear hd6
      refine hK.out _ _ ?_ (fun hHeld => ?_)
      · (try dsimp only)
        exact HC.out _ (by first | exact (E5.trans (E8.trans E6)) | exact Dr.drew (E5.trans (E8.trans E6)))
      clear hK K
      try simp only [Act.put, List.setIfInBounds_toArray, List.set_cons_zero, List.set_cons_succ]
      refine wpAnyH_ready (rs := [9]) (by kernel_rfl) (by simp) ?_
      refine (AllReadyH.cons (opN rfl) (fun K hK => ?_) AllReadyH.nil)
      go_simp
      go_at_call 64
      refine Calls.mono (C_spec_l1Int _ (w.heap.size + 1 + 1) _ [50, 60, -1] (by first | exact hc6 | exact hc6.drew) ((HL8.out.dr (B := w.heap.size + 1 + 1) (by first | exact E6 | exact Dr.drew E6) (by omega)).hide (by omega)) (by decide) (by decide)) ?_
      rintro e w9 ⟨hd9, hc9, t, ht, rfl⟩
      have z9 := hd9.size
      (try simp only [World.size_alloc, World.size_setCell, World.size_drew, size_drewN] at z9)
      have E9 : Dr (w.heap.size + 1 + 1) w6 w9 := by first | exact hd9 | exact (Dr.drew (Dr.refl _ _)).trans hd9
      have htb := mem_till ht
      clear ht
      clear hd9
      refine hK.out _ _ ?_ (fun hHeld => ?_)
      · (try dsimp only)
        exact HC.out _ (by first | exact (E5.trans (E8.trans (E6.trans E9))) | exact Dr.drew (E5.trans (E8.trans (E6.trans E9))))
      clear hK K
      try simp only [Act.put, List.setIfInBounds_toArray, List.set_cons_zero, List.set_cons_succ]
      refine tk 10 (opN rfl) (by kernel_rfl) (by rfl) (by (intro w hSw; (try dsimp only at hSw); go_simp; first | done | with_reducible rfl)) (by assumption) ?_
      try simp only [Act.put, List.setIfInBounds_toArray, List.set_cons_zero, List.set_cons_succ]
      refine wpAnyH_ready (rs := [11]) (by kernel_rfl) (by simp) ?_
      refine (AllReadyH.cons (opN rfl) (fun K hK => ?_) AllReadyH.nil)
      have hO9 := Dr.blk (E5.trans (E8.trans (E6.trans E9))) hOT (by omega)
      have hP9 := Dr.blk (E5.trans (E8.trans (E6.trans E9))) hPT (by omega)
      have hG9 := Dr.blk (E5.trans (E8.trans (E6.trans E9))) hGT (by omega)
      have hH9 := Dr.blk (E5.trans (E8.trans (E6.trans E9))) hHT (by omega)
      have Q9 := QT.dr (E5.trans (E8.trans (E6.trans E9))) (by omega)
      have M9 := MT.dr (E5.trans (E8.trans (E6.trans E9))) (by omega)
      have N9 := NT_.dr (E5.trans (E8.trans (E6.trans E9))) (by omega)
      have S9 := HS6.out.dr E9 (by omega)
      have D9 := Lib.hid (DT_.out.trans (E5.trans (E8.trans (E6.trans E9))))
      have kk11 := hO9.c1
      have ff11 := hO9.f1 (i := 0)
      have zz11 := hO9.lt
      go_simp
      refine abs_world (fun w11 hw11 => ?_)
      obtain ⟨hO11, hK11, hs11, F11⟩ := stored1n (v := .slice A1 (List.length n1) c1) hO9 (by first | exact .inl hw11 | exact .inr hw11)
      have D11 := Lib.hid (F11 w (w.heap.size + 1 + 1) (Nat.le_refl _) D9.out)
      have hP11 : Blk w11 (w.heap.size + 1) 32 #[.slice none 0 0] := (hK11 _ (by omega)).trans hP9
      have hG11 : Blk w11 w4.heap.size 32 #[.slice A1 (List.length n1) c1] := (hK11 _ (by omega)).trans hG9
      have hH11 : Blk w11 w5.heap.size 32 #[.slice A2 (List.length n2) c2] := (hK11 _ (by omega)).trans hH9
      have Q11 := Q9.keep hs11 (fun q h1 h2 => hK11 q (by omega))
      have M11 := M9.keep hs11 (fun q h1 h2 => hK11 q (by omega))
      have N11 := N9.keep hs11 (fun q h1 h2 => hK11 q (by omega))
      have S11 := S9.keep hs11 (fun q h1 h2 => hK11 q (by omega))
      clear hw11 hK11 F11 kk11 ff11 zz11
      refine hK.out _ _ ?_ (fun hHeld => ?_)
      · (try dsimp only)
        exact ⟨hG11.c1, hH11.c1⟩
      clear hK K
      try simp only [Act.put, List.setIfInBounds_toArray, List.set_cons_zero, List.set_cons_succ]
      refine wpAnyH_ready (rs := [12]) (by kernel_rfl) (by simp) ?_
      refine (AllReadyH.cons (opN rfl) (fun K hK => ?_) AllReadyH.nil)
      have kk12 := hP11.c1
      have ff12 := hP11.f1 (i := 0)
      have zz12 := hP11.lt
      go_simp
      refine abs_world (fun w12 hw12 => ?_)
      obtain ⟨hP12, hK12, hs12, F12⟩ := stored1n (v := .slice A2 (List.length n2) c2) hP11 (by first | exact .inl hw12 | exact .inr hw12)
      have D12 := Lib.hid (F12 w (w.heap.size + 1 + 1) (by omega) D11.out)
      have hO12 : Blk w12 w.heap.size 32 #[.slice A1 (List.length n1) c1] := (hK12 _ (by omega)).trans hO11
      have hG12 : Blk w12 w4.heap.size 32 #[.slice A1 (List.length n1) c1] := (hK12 _ (by omega)).trans hG11
      have hH12 : Blk w12 w5.heap.size 32 #[.slice A2 (List.length n2) c2] := (hK12 _ (by omega)).trans hH11
      have Q12 := Q11.keep hs12 (fun q h1 h2 => hK12 q (by omega))
      have M12 := M11.keep hs12 (fun q h1 h2 => hK12 q (by omega))
      have N12 := N11.keep hs12 (fun q h1 h2 => hK12 q (by omega))
      have S12 := S11.keep hs12 (fun q h1 h2 => hK12 q (by omega))
      clear hw12 hK12 F12 kk12 ff12 zz12
      refine hK.out _ _ ?_ (fun hHeld => ?_)
      · (try dsimp only)
        exact ⟨hG12.c1, hH12.c1⟩
      clear hK K
      try simp only [Act.put, List.setIfInBounds_toArray, List.set_cons_zero, List.set_cons_succ]
      refine tk 13 (opN rfl) (by kernel_rfl) (by rfl) (by (intro w hSw; (try dsimp only at hSw); go_simp; first | done | with_reducible rfl)) (by assumption) ?_
      try simp only [Act.put, List.setIfInBounds_toArray, List.set_cons_zero, List.set_cons_succ]
      refine tk 14 (opN rfl) (by kernel_rfl) (by rfl) (by (intro w hSw; (try dsimp only at hSw); go_simp; first | done | with_reducible rfl)) (by assumption) ?_
      try simp only [Act.put, List.setIfInBounds_toArray, List.set_cons_zero, List.set_cons_succ]
      refine wpAnyH_done (by kernel_rfl) ?_ _
      refine NoPanic.normal ?_
      have o12 := hO12.c1
      have p12 := hP12.c1
      go_wp2
      refine bodyPost_ret (v := .tuple #[.slice A (List.length l) c, .agg #[.slice A1 (List.length n1) c1], .agg #[.slice A2 (List.length n2) c2], .slice A3 (List.length sb) c3, .int .i64 t]) (by simp [results, Tryz.results35, go_sem, o12, p12]) rfl ?_
      exact ⟨_, l, _, _, n1, _, _, n2, _, _, sb, _, t, rfl, Q12.rd, M12.rd, N12.rd, S12.rd, HOKL.out, hokn.out, hok2, by omega, htb, Dr.below D12.out (by omega) (Nat.le_refl _)⟩
  · go_simp
    refine abs_world (fun w8 hw8 => ?_)
    have E8 : Dr (w.heap.size + 1 + 1) WT w8 := by rw [hw8]; first | exact new_dr (w.heap.size + 1 + 1) WT _ | exact (new_dr (w.heap.size + 1 + 1) WT _).drew
    have hc8 : CurT w8 (w.heap.size + 1 + 1) := by rw [hw8]; first | exact CT.alloc _ | exact (CT.alloc _).drew
    have z8 : WT.heap.size < w8.heap.size := by rw [hw8]; (try simp only [World.size_alloc, World.size_setCell, World.size_drew, size_drewN]); omega
    have HL8 := Lib.hid (show RdI (.sl .int) WT.heap.size (WT.heap.size + 1) w8 [.slice (some ⟨WT.heap.size, 0, none⟩) 3 3] [50, 60, -1] by rw [hw8]; first | exact (RdI.liti (by rfl) (by decide) (by first | (with_reducible rfl) | simp only [World.size_drew]) (by rfl) (by rfl) (by decide)) | exact RdI.drew (RdI.liti (by rfl) (by decide) (by first | (with_reducible rfl) | simp only [World.size_drew]) (by rfl) (by rfl) (by decide)))
    clear hw8
    refine hK.out _ _ ?_ (fun hHeld => ?_)
    · (try dsimp only)
      exact HC.out _ (by first | exact E8 | exact Dr.drew E8)
    clear hK K
    try simp only [Act.put, List.setIfInBounds_toArray, List.set_cons_zero, List.set_cons_succ]
    refine wpAnyH_ready (rs := [5]) (by kernel_rfl) (by simp) ?_
    refine (AllReadyH.cons (opN rfl) (fun K hK => ?_) AllReadyH.nil)
    go_simp
    go_at_call 95
    refine Calls.mono (C_spec_l1Below _ (w.heap.size + 1 + 1) 4 (by first | exact hc8 | exact hc8.drew) (by decide) (by decide)) ?_
    rintro e w55 ⟨hd5, hc5, xk, rfl, hx0, hx1⟩
    have z5 := hd5.size
    (try simp only [World.size_alloc, World.size_setCell, World.size_drew, size_drewN] at z5)
    have E5 : Dr (w.heap.size + 1 + 1) w8 w55 := by first | exact hd5 | exact (Dr.drew (Dr.refl _ _)).trans hd5
    obtain ⟨ka, rfl⟩ : ∃ i : Nat, xk = i := ⟨xk.toNat, by omega⟩
    clear hd5
    refine hK.out _ _ ?_ (fun hHeld => ?_)
    · (try dsimp only)
      exact HC.out _ (by first | exact (E8.trans E5) | exact Dr.drew (E8.trans E5))
    clear hK K
    try simp only [Act.put, List.setIfInBounds_toArray, List.set_cons_zero, List.set_cons_succ]
    refine wpAnyH_ready (rs := [6]) (by kernel_rfl) (by simp) ?_
    refine (AllReadyH.cons (opN rfl) (fun K hK => ?_) AllReadyH.nil)
    go_simp
    go_at_call 94
    refine Calls.mono (C_spec_l1Bytes _ (w.heap.size + 1 + 1) ka (by first | exact hc5 | exact hc5.drew) (by omega)) ?_
    rintro e w6 ⟨hd6, hc6, A3, sb, c3, fp6, rfl, how6, hfr6, hlb⟩
    have z6 := hd6.size
    (try simp only [World.size_alloc, World.size_setCell, World.size_drew, size_drewN] at z6)
    have E6 : Dr (w.heap.size + 1 + 1) w55 w6 := by first | exact hd6 | exact (Dr.drew (Dr.refl _ _)).trans hd6
    subst hlb
    have HS6 := Lib.hid (show RdI (.sl .byte) (w.heap.size + 1 + 1 + 1) w6.heap.size w6 _ sb from RdI.of_ow how6 (fun q hq => ⟨by have := (hfr6.2 q hq).1; (try simp only [World.size_alloc, World.size_setCell, World.size_drew, size_drewN] at this); omega, (hfr6.2 q hq).2⟩) (Nat.le_refl _))
    clear how6 hfr6
    clear hd6
    refine hK.out _ _ ?_ (fun hHeld => ?_)
    · (try dsimp only)
      exact HC.out _ (by first | exact (E8.trans (E5.trans E6)) | exact Dr.drew (E8.trans (E5.trans E6)))
    clear hK K
    try simp only [Act.put, List.setIfInBounds_toArray, List.set_cons_zero, List.set_cons_succ]
    refine wpAnyH_ready (rs := [9]) (by kernel_rfl) (by simp) ?_
    refine (AllReadyH.cons (opN rfl) (fun K hK => ?_) AllReadyH.nil)
    go_simp
    go_at_call 64
    refine Calls.mono (C_spec_l1Int _ (w.heap.size + 1 + 1) _ [50, 60, -1] (by first | exact hc6 | exact hc6.drew) ((HL8.out.dr (B := w.heap.size + 1 + 1) (by first | exact (E5.trans E6) | exact Dr.drew (E5.trans E6)) (by omega)).hide (by omega)) (by decide) (by decide)) ?_
    rintro e w9 ⟨hd9, hc9, t, ht, rfl⟩
    have z9 := hd9.size
    (try simp only [World.size_alloc, World.size_setCell, World.size_drew, size_drewN] at z9)
    have E9 : Dr (w.heap.size + 1 + 1) w6 w9 := by first | exact hd9 | exact (Dr.drew (Dr.refl _ _)).trans hd9
    have htb := mem_till ht
    clear ht
    clear hd9
    refine hK.out _ _ ?_ (fun hHeld => ?_)
    · (try dsimp only)
      exact HC.out _ (by first | exact (E8.trans (E5.trans (E6.trans E9))) | exact Dr.drew (E8.trans (E5.trans (E6.trans E9))))
    clear hK K
    try simp only [Act.put, List.setIfInBounds_toArray, List.set_cons_zero, List.set_cons_succ]
    refine tk 10 (opN rfl) (by kernel_rfl) (by rfl) (by (intro w hSw; (try dsimp only at hSw); go_simp; first | done | with_reducible rfl)) (by assumption) ?_
    try simp only [Act.put, List.setIfInBounds_toArray, List.set_cons_zero, List.set_cons_succ]
    refine wpAnyH_ready (rs := [11]) (by kernel_rfl) (by simp) ?_
    refine (AllReadyH.cons (opN rfl) (fun K hK => ?_) AllReadyH.nil)
    have hO9 := Dr.blk (E8.trans (E5.trans (E6.trans E9))) hOT (by omega)
    have hP9 := Dr.blk (E8.trans (E5.trans (E6.trans E9))) hPT (by omega)
    have hG9 := Dr.blk (E8.trans (E5.trans (E6.trans E9))) hGT (by omega)
    have hH9 := Dr.blk (E8.trans (E5.trans (E6.trans E9))) hHT (by omega)
    have Q9 := QT.dr (E8.trans (E5.trans (E6.trans E9))) (by omega)
    have M9 := MT.dr (E8.trans (E5.trans (E6.trans E9))) (by omega)
    have N9 := NT_.dr (E8.trans (E5.trans (E6.trans E9))) (by omega)
    have S9 := HS6.out.dr E9 (by omega)
    have D9 := Lib.hid (DT_.out.trans (E8.trans (E5.trans (E6.trans E9))))
    have kk11 := hO9.c1
    have ff11 := hO9.f1 (i := 0)
    have zz11 := hO9.lt
    go_simp
    refine abs_world (fun w11 hw11 => ?_)
    obtain ⟨hO11, hK11, hs11, F11⟩ := stored1n (v := .slice A1 (List.length n1) c1) hO9 (by first | exact .inl hw11 | exact .inr hw11)
    have D11 := Lib.hid (F11 w (w.heap.size + 1 + 1) (Nat.le_refl _) D9.out)
    have hP11 : Blk w11 (w.heap.size + 1) 32 #[.slice none 0 0] := (hK11 _ (by omega)).trans hP9
    have hG11 : Blk w11 w4.heap.size 32 #[.slice A1 (List.length n1) c1] := (hK11 _ (by omega)).trans hG9
    have hH11 : Blk w11 w5.heap.size 32 #[.slice A2 (List.length n2) c2] := (hK11 _ (by omega)).trans hH9
    have Q11 := Q9.keep hs11 (fun q h1 h2 => hK11 q (by omega))
    have M11 := M9.keep hs11 (fun q h1 h2 => hK11 q (by omega))
    have N11 := N9.keep hs11 (fun q h1 h2 => hK11 q (by omega))
    have S11 := S9.keep hs11 (fun q h1 h2 => hK11 q (by omega))
    clear hw11 hK11 F11 kk11 ff11 zz11
    refine hK.out _ _ ?_ (fun hHeld => ?_)
    · (try dsimp only)
      exact ⟨hG11.c1, hH11.c1⟩
    clear hK K
    try simp only [Act.put, List.setIfInBounds_toArray, List.set_cons_zero, List.set_cons_succ]
    refine wpAnyH_ready (rs := [12]) (by kernel_rfl) (by simp) ?_
    refine (AllReadyH.cons (opN rfl) (fun K hK => ?_) AllReadyH.nil)
    have kk12 := hP11.c1
    have ff12 := hP11.f1 (i := 0)
    have zz12 := hP11.lt
    go_simp
    refine abs_world (fun w12 hw12 => ?_)
    obtain ⟨hP12, hK12, hs12, F12⟩ := stored1n (v := .slice A2 (List.length n2) c2) hP11 (by first | exact .inl hw12 | exact .inr hw12)
    have D12 := Lib.hid (F12 w (w.heap.size + 1 + 1) (by omega) D11.out)
    have hO12 : Blk w12 w.heap.size 32 #[.slice A1 (List.length n1) c1] := (hK12 _ (by omega)).trans hO11
    have hG12 : Blk w12 w4.heap.size 32 #[.slice A1 (List.length n1) c1] := (hK12 _ (by omega)).trans hG11
    have hH12 : Blk w12 w5.heap.size 32 #[.slice A2 (List.length n2) c2] := (hK12 _ (by omega)).trans hH11
    have Q12 := Q11.keep hs12 (fun q h1 h2 => hK12 q (by omega))
    have M12 := M11.keep hs12 (fun q h1 h2 => hK12 q (by omega))
    have N12 := N11.keep hs12 (fun q h1 h2 => hK12 q (by omega))
    have S12 := S11.keep hs12 (fun q h1 h2 => hK12 q (by omega))
    clear hw12 hK12 F12 kk12 ff12 zz12
    refine hK.out _ _ ?_ (fun hHeld => ?_)
    · (try dsimp only)
      exact ⟨hG12.c1, hH12.c1⟩
    clear hK K
    try simp only [Act.put, List.setIfInBounds_toArray, List.set_cons_zero, List.set_cons_succ]
    refine tk 13 (opN rfl) (by kernel_rfl) (by rfl) (by (intro w hSw; (try dsimp only at hSw); go_simp; first | done | with_reducible rfl)) (by assumption) ?_
    try simp only [Act.put, List.setIfInBounds_toArray, List.set_cons_zero, List.set_cons_succ]
    refine tk 14 (opN rfl) (by kernel_rfl) (by rfl) (by (intro w hSw; (try dsimp only at hSw); go_simp; first | done | with_reducible rfl)) (by assumption) ?_
    try simp only [Act.put, List.setIfInBounds_toArray, List.set_cons_zero, List.set_cons_succ]
    refine wpAnyH_done (by kernel_rfl) ?_ _
    refine NoPanic.normal ?_
    have o12 := hO12.c1
    have p12 := hP12.c1
    go_wp2
    refine bodyPost_ret (v := .tuple #[.slice A (List.length l) c, .agg #[.slice A1 (List.length n1) c1], .agg #[.slice A2 (List.length n2) c2], .slice A3 (List.length sb) c3, .int .i64 t]) (by simp [results, Tryz.results35, go_sem, o12, p12]) rfl ?_
    exact ⟨_, l, _, _, n1, _, _, n2, _, _, sb, _, t, rfl, Q12.rd, M12.rd, N12.rd, S12.rd, HOKL.out, hokn.out, hok2, by omega, htb, Dr.below D12.out (by omega) (Nat.le_refl _)⟩
end Go.Proofs.YtldgbnlcnlfmeaaGreat
