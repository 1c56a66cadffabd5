/- A nonce is remembered. Printed by gen18.py. -/
import Derived.Test.YtldgbnlcnlfmeaaRet
import Derived.Test.YtldgbnlcnlfmeaaNb
import Derived.Test.YtldgbnlcnlfmeaaCsn
import Derived.Test.YtldgbnlcnlfmeaaMrk
namespace Go.Proofs.Ytldgbnlcnlfmeaa
open Go.RowKit
set_option linter.unusedVariables false
set_option linter.unusedSimpArgs false

def snOut (s : List (Ty.D tSeenNonce)) (n : List (List UInt8)) (a : Int) : List (Ty.D tSeenNonce) := s ++ [(n, a)]
def f_AddSeenNonce (s : List (Ty.D tSeenNonce)) (n : List (List UInt8)) (a : Int) : List (Ty.D tSeenNonce) := if 24 < (snOut s n a).length then (snOut s n a).drop 1 else snOut s n a
theorem snOut_len (s : List (Ty.D tSeenNonce)) (n : List (List UInt8)) (a : Int) : (snOut s n a).length = s.length + 1 := by unfold snOut; simp
theorem N_AddSeenNonce {s : List (Ty.D tSeenNonce)} {n : List (List UInt8)} {a : Int} (s0 : Ty.bulk (.sl tSeenNonce) s ≤ 1048576) (s1 : Ty.bulk (.sl .str) n ≤ 1048576) : Ty.cnt (.sl tSeenNonce) (f_AddSeenNonce s n a) ≤ 100000000000 := by
  refine cnt_bd (t := .sl tSeenNonce) (B := 3000000) ?_ (by decide)
  have h : Ty.bulk (.sl tSeenNonce) (snOut s n a) ≤ 3000000 := by
    unfold snOut
    rw [bulk_app, bulk_one]
    have : Ty.bulk tSeenNonce (n, a) = Ty.bulk (.sl .str) n + 0 := rfl
    omega
  unfold f_AddSeenNonce
  split
  · exact Nat.le_trans (bulk_drop _ _) h
  · exact h
/-- A slice without its first element. -/
theorem Ty.ow_tail {w : World} {e : Ty} {b o n c : Nat} {x : List e.D} {fp : List Nat} {lo hi : Nat} (h : (Ty.sl e).ow w [.slice (some ⟨b, o, none⟩) n c] x fp) (h1 : 1 < x.length) (hf : FrI lo hi fp) :
    ∃ fp', (Ty.sl e).ow w [.slice (some ⟨b, o + e.sz, none⟩) (n - 1) (c - 1)] (x.drop 1) fp' ∧ FrI lo hi fp' := by
  obtain ⟨A, c', h2, h3, h4, h5, h6⟩ := h
  injection h2 with h2 _
  injection h2 with h2 hn2 h7
  subst h7
  have h3' : x.length ≤ c := h3
  have h5' : x.length ≤ 9223372036854775807 := h5
  rcases h6 with h6 | ⟨_, b', o', fs, hA, hfp, hc⟩
  · exact absurd h6.1 (by show ¬ x.length = 0; omega)
  rw [← h2] at hA
  injection hA with hA
  injection hA with hb ho
  subst hb; subst ho
  have hl : (x.drop 1).length = x.length - 1 := List.length_drop
  have hr : List.range x.length = 0 :: (List.range (x.length - 1)).map Nat.succ := by
    rw [show x.length = (x.length - 1) + 1 from by omega, List.range_succ_eq_map, Nat.add_sub_cancel]
  have hfp2 : fp = b :: (fs 0 ++ (List.range (x.length - 1)).flatMap (fun i => fs (i + 1))) := by
    have hfp' : fp = b :: (List.range x.length).flatMap fs := hfp
    rw [hfp', hr, List.flatMap_cons, List.flatMap_map]
  refine ⟨b :: (List.range (x.drop 1).length).flatMap (fun i => fs (i + 1)), ⟨_, c - 1, ?_, ?_, ⟨by have := h4.1; omega, fun h => by cases h⟩, ?_, .inr ⟨?_, b, o + e.sz, fun i => fs (i + 1), rfl, rfl, fun i hi => ?_⟩⟩, ?_⟩
  · rw [show n - 1 = List.length (x.drop 1) from by have : n = x.length := hn2; rw [hl]; omega]
  · show (x.drop 1).length ≤ c - 1; omega
  · show (x.drop 1).length ≤ _; omega
  · show 0 < (x.drop 1).length; omega
  · have hi' : i + 1 < x.length := by have : i < (x.drop 1).length := hi; omega
    obtain ⟨ds, g1, g2, g3⟩ := hc (i + 1) hi'
    refine ⟨ds, g1, fun j hj => ?_, ?_⟩
    · have := g2 j hj
      rw [show o + e.sz + i * e.sz + j = o + (i + 1) * e.sz + j from by rw [Nat.succ_mul]; omega]
      exact this
    · have : (x.drop 1)[i]'hi = x[i + 1] := by rw [List.getElem_drop]; congr 1; omega
      rw [this]; exact g3
  · rw [hfp2] at hf
    rw [hl]
    refine ⟨?_, fun y hy => hf.2 y ?_⟩
    · have h8 := hf.1
      rw [List.nodup_cons] at h8 ⊢
      exact ⟨fun hm => h8.1 (List.mem_append_right _ hm), (List.nodup_append.1 h8.2).2.1⟩
    · rcases List.mem_cons.1 hy with rfl | hy
      · exact List.mem_cons_self
      · exact List.mem_cons_of_mem _ (List.mem_append_right _ hy)
set_option maxRecDepth 100000 in
set_option maxHeartbeats 1000000 in
theorem C_impl_AddSeenNonce (w : World) (v : Value) (x : List (Ty.D tSeenNonce)) (cs2 : List Value) (n : List (List UInt8)) (a : Int) (h1 : (Ty.sl tSeenNonce).rd w [v] x) (h2 : (Ty.sl .str).rd w cs2 n) (s0 : Ty.bulk (.sl tSeenNonce) x ≤ 1048576) (s1 : Ty.bulk (.sl .str) n ≤ 1048576) (i2 : -9223372036854775808 ≤ a ∧ a ≤ 9223372036854775807) :
    Calls Try.prog 9 #[v, .agg cs2.toArray, .int .i64 a] w (RetSl w tSeenNonce (f_AddSeenNonce x n a)) := by
  obtain ⟨A0, c0, rfl⟩ := Ty.rd_slv h2
  have hxl := Ty.bulk_len s0
  have hnl := Ty.bulk_len s1
  have HF := Lib.hid (show f_AddSeenNonce x n a = if 24 < (snOut x n a).length then (snOut x n a).drop 1 else snOut x n a from rfl)
  have HLN := Lib.hid (snOut_len x n a)
  have kb0 : (w.alloc (.cells #[.slice A0 n.length c0] 27)).cell? ⟨w.heap.size, 0, none⟩ = some (.slice A0 n.length c0) := cell_new w _ _ 0 rfl
  have hvb : Below w.heap.size w (w.alloc (.cells #[.slice A0 n.length c0] 27)) := (by repeat' (first | (with_reducible exact Below.refl _ _) | (with_reducible assumption) | (with_reducible refine bel_set ?_ (by (try dsimp only); omega) _) | (with_reducible refine bel_alloc ?_ _) | (with_reducible refine bel_drewN ?_ _) | (with_reducible refine bel_drew ?_)))
  have zb0 : (w.alloc (.cells #[.slice A0 n.length c0] 27)).heap.size = w.heap.size + 1 := by rw [World.size_alloc]
  go_enter Try.func9, Try.ntmps9
  go_wp2_with fail
  generalize (w.alloc (.cells #[.slice A0 n.length c0] 27)) = WB at kb0 hvb zb0 ⊢
  have zb : w.heap.size < WB.heap.size := by omega
  have HS : Hid (∀ W, Below WB.heap.size WB W → Below w.heap.size w W ∧ W.cell? ⟨w.heap.size, 0, none⟩ = some (.slice A0 n.length c0)) := fun W hW => ⟨bel_trans hvb hW, (hW.cell (p := ⟨w.heap.size, 0, none⟩) zb).trans kb0⟩
  clear kb0 zb0
  have hv0 : Below WB.heap.size WB WB := Below.refl _ _
  go_region_held3 (fun W => Below w.heap.size w W ∧ W.cell? ⟨w.heap.size, 0, none⟩ = some (.slice A0 n.length c0)) (first | (exact hz) | (exact HS.out _ (by (repeat' (first | (with_reducible exact Below.refl _ _) | (with_reducible assumption) | (with_reducible refine bel_set ?_ (by (try dsimp only); omega) _) | (with_reducible refine bel_alloc ?_ _) | (with_reducible refine bel_drewN ?_ _) | (with_reducible refine bel_drew ?_) | (with_reducible refine bel_trans ?_ (by assumption)))); done)))
    (first
      | (go_at_call 70; (with_reducible refine (C_impl_copySeen _ _ x (Ty.rd_below (by (repeat' (first | (with_reducible exact Below.refl _ _) | (with_reducible assumption) | (with_reducible refine bel_set ?_ (by (try dsimp only); omega) _) | (with_reducible refine bel_alloc ?_ _) | (with_reducible refine bel_drewN ?_ _) | (with_reducible refine bel_drew ?_) | (with_reducible refine bel_trans ?_ (by assumption)))); done) (Ty.rd_below hvb h1)) (Nat.le_trans s0 (by decide))).mono ?_); rintro e w1 ⟨v1, rfl, hr1, hb1⟩; have HR1 := Lib.hid hr1; have hv1 : Below WB.heap.size WB w1 := (by (repeat' (first | (with_reducible exact Below.refl _ _) | (with_reducible assumption) | (with_reducible refine bel_set ?_ (by (try dsimp only); omega) _) | (with_reducible refine bel_alloc ?_ _) | (with_reducible refine bel_drewN ?_ _) | (with_reducible refine bel_drew ?_) | (with_reducible refine bel_trans ?_ (by assumption)))); done))
      | (go_at_call 71; (with_reducible refine (C_impl_copyName _ _ n (Ty.rd_below (by (repeat' (first | (with_reducible exact Below.refl _ _) | (with_reducible assumption) | (with_reducible refine bel_set ?_ (by (try dsimp only); omega) _) | (with_reducible refine bel_alloc ?_ _) | (with_reducible refine bel_drewN ?_ _) | (with_reducible refine bel_drew ?_) | (with_reducible refine bel_trans ?_ (by assumption)))); done) (Ty.rd_below hvb h2)) (Nat.le_trans hnl (by decide))).mono ?_); rintro e w2 ⟨cs2, fp2, rfl, how2, hfr2, hb2⟩; obtain ⟨A2, c2, rfl⟩ := Ty.ow_slv how2; have hv2 : Below WB.heap.size WB w2 := (by (repeat' (first | (with_reducible exact Below.refl _ _) | (with_reducible assumption) | (with_reducible refine bel_set ?_ (by (try dsimp only); omega) _) | (with_reducible refine bel_alloc ?_ _) | (with_reducible refine bel_drewN ?_ _) | (with_reducible refine bel_drew ?_) | (with_reducible refine bel_trans ?_ (by assumption)))); done))
      | ((refine step_append_drow (by rfl) _ _ 24 (by rfl) w1 WB.heap.size 38 info_SeenNonce rfl Try.underlying24 _ _ x [(n, a)] (by rfl) (by rfl) (HR1.out.mono (by have := hv1.size; simp only [size_drewN, World.size_drew]; omega)) (bel_alloc hb2 _) (Src.litE 38 (ow_SeenNonce_mk (x := (n, a)) how2 i2) hfr2 (by first | rfl | simp only [World.size_alloc])) (by rw [List.length_singleton]; omega) (by rw [List.length_singleton]; unfold maxLen; omega) (by have := hv1.size; omega) ?_); intro v' w' hr' hg'; have hq := HS.out _ (bel_alloc hv2 (.cells #[.slice A2 (List.length n) c2, .int .i64 a] 38)); have hro := HR1.out.block; simp only [size_drewN, World.size_drew] at hro; have hne : some w.heap.size ≠ v1.ownBlock := fun e => (by have := (hro _ e.symm).1; omega); have hz : Below w.heap.size w w' ∧ w'.cell? ⟨w.heap.size, 0, none⟩ = some (.slice A0 n.length c0) := ⟨bel_grown hq.1 hq.1.size hg' (fun g hg => (by have := (hro g hg).1; omega)), hg'.cell hq.2 hne⟩)
      | fail)
  have hr2 : DRow tSeenNonce w' WB.heap.size 38 v' (snOut x n a) := hr'
  obtain ⟨A9, c9, fp9, rfl, how9, hfr9⟩ := hr2.own
  clear hr' hr2
  by_cases h24 : 24 < (snOut x n a).length
  · have HE := Lib.hid (show f_AddSeenNonce x n a = (snOut x n a).drop 1 from by rw [HF.out, if_pos h24])
    obtain ⟨b9, o9, ds9, rfl, _⟩ := Ty.rd_at (k := 0) (Ty.ow_rd how9) (show 0 < (snOut x n a).length by omega)
    have hcle : (snOut x n a).length ≤ c9 := by
      obtain ⟨_, c9', hcc, hcle, _⟩ := how9
      injection hcc with hcc _
      injection hcc with _ _ hcc
      subst hcc
      exact hcle
    obtain ⟨fp8, how8, hfr8⟩ := Ty.ow_tail how9 (by omega) hfr9
    have hc1 : 1 < c9 := by omega
    have hsl : ((snOut x n a).drop 1).length = (snOut x n a).length - 1 := List.length_drop
    go_wp2
    go_ret
    rw [HE.out]
    exact ⟨_, _, fp8, by rw [hsl]; rfl, by rw [hsl]; exact how8, hfr8.mono (by have := hvb.size; omega) (Nat.le_refl _), hz.1⟩
  · have HE := Lib.hid (show f_AddSeenNonce x n a = snOut x n a from by rw [HF.out, if_neg h24])
    go_wp2
    go_ret
    rw [HE.out]
    exact ⟨A9, c9, fp9, rfl, how9, hfr9.mono (by have := hvb.size; omega) (Nat.le_refl _), hz.1⟩
set_option maxRecDepth 100000 in
set_option maxHeartbeats 1000000 in
theorem C_spec_AddSeenNonce (w : World) (v : Value) (x : List (Ty.D tSeenNonce)) (cs2 : List Value) (n : List (List UInt8)) (a : Int) (h1 : (Ty.sl tSeenNonce).rd w [v] x) (h2 : (Ty.sl .str).rd w cs2 n) (s0 : Ty.bulk (.sl tSeenNonce) x ≤ 1048576) (s1 : Ty.bulk (.sl .str) n ≤ 1048576) (i2 : -9223372036854775808 ≤ a ∧ a ≤ 9223372036854775807) :
    Calls Try.prog 11 #[v, .agg cs2.toArray, .int .i64 a] w (RetSl w tSeenNonce (f_AddSeenNonce x n a)) := by
  obtain ⟨A0, c0, rfl⟩ := Ty.rd_slv h2
  have hxl := Ty.bulk_len s0
  have hnl := Ty.bulk_len s1
  have HF := Lib.hid (show f_AddSeenNonce x n a = if 24 < (snOut x n a).length then (snOut x n a).drop 1 else snOut x n a from rfl)
  have HLN := Lib.hid (snOut_len x n a)
  have kb0 : (w.alloc (.cells #[.slice A0 n.length c0] 27)).cell? ⟨w.heap.size, 0, none⟩ = some (.slice A0 n.length c0) := cell_new w _ _ 0 rfl
  have hvb : Below w.heap.size w (w.alloc (.cells #[.slice A0 n.length c0] 27)) := (by repeat' (first | (with_reducible exact Below.refl _ _) | (with_reducible assumption) | (with_reducible refine bel_set ?_ (by (try dsimp only); omega) _) | (with_reducible refine bel_alloc ?_ _) | (with_reducible refine bel_drewN ?_ _) | (with_reducible refine bel_drew ?_)))
  have zb0 : (w.alloc (.cells #[.slice A0 n.length c0] 27)).heap.size = w.heap.size + 1 := by rw [World.size_alloc]
  go_enter Try.func11, Try.ntmps11
  go_wp2_with fail
  generalize (w.alloc (.cells #[.slice A0 n.length c0] 27)) = WB at kb0 hvb zb0 ⊢
  have zb : w.heap.size < WB.heap.size := by omega
  have HS : Hid (∀ W, Below WB.heap.size WB W → Below w.heap.size w W ∧ W.cell? ⟨w.heap.size, 0, none⟩ = some (.slice A0 n.length c0)) := fun W hW => ⟨bel_trans hvb hW, (hW.cell (p := ⟨w.heap.size, 0, none⟩) zb).trans kb0⟩
  clear kb0 zb0
  have hv0 : Below WB.heap.size WB WB := Below.refl _ _
  go_region_held3 (fun W => Below w.heap.size w W ∧ W.cell? ⟨w.heap.size, 0, none⟩ = some (.slice A0 n.length c0)) (first | (exact hz) | (exact HS.out _ (by (repeat' (first | (with_reducible exact Below.refl _ _) | (with_reducible assumption) | (with_reducible refine bel_set ?_ (by (try dsimp only); omega) _) | (with_reducible refine bel_alloc ?_ _) | (with_reducible refine bel_drewN ?_ _) | (with_reducible refine bel_drew ?_) | (with_reducible refine bel_trans ?_ (by assumption)))); done)))
    (first
      | (go_at_call 72; (with_reducible refine (C_spec_l13Seen _ _ x (Ty.rd_below (by (repeat' (first | (with_reducible exact Below.refl _ _) | (with_reducible assumption) | (with_reducible refine bel_set ?_ (by (try dsimp only); omega) _) | (with_reducible refine bel_alloc ?_ _) | (with_reducible refine bel_drewN ?_ _) | (with_reducible refine bel_drew ?_) | (with_reducible refine bel_trans ?_ (by assumption)))); done) (Ty.rd_below hvb h1)) (Nat.le_trans s0 (by decide))).mono ?_); rintro e w1 ⟨v1, rfl, hr1, hb1⟩; have HR1 := Lib.hid hr1; have hv1 : Below WB.heap.size WB w1 := (by (repeat' (first | (with_reducible exact Below.refl _ _) | (with_reducible assumption) | (with_reducible refine bel_set ?_ (by (try dsimp only); omega) _) | (with_reducible refine bel_alloc ?_ _) | (with_reducible refine bel_drewN ?_ _) | (with_reducible refine bel_drew ?_) | (with_reducible refine bel_trans ?_ (by assumption)))); done))
      | (go_at_call 73; (with_reducible refine (C_spec_l4Copy _ _ n (Ty.rd_below (by (repeat' (first | (with_reducible exact Below.refl _ _) | (with_reducible assumption) | (with_reducible refine bel_set ?_ (by (try dsimp only); omega) _) | (with_reducible refine bel_alloc ?_ _) | (with_reducible refine bel_drewN ?_ _) | (with_reducible refine bel_drew ?_) | (with_reducible refine bel_trans ?_ (by assumption)))); done) (Ty.rd_below hvb h2)) (Nat.le_trans hnl (by decide))).mono ?_); rintro e w2 ⟨cs2, fp2, rfl, how2, hfr2, hb2⟩; obtain ⟨A2, c2, rfl⟩ := Ty.ow_slv how2; have hv2 : Below WB.heap.size WB w2 := (by (repeat' (first | (with_reducible exact Below.refl _ _) | (with_reducible assumption) | (with_reducible refine bel_set ?_ (by (try dsimp only); omega) _) | (with_reducible refine bel_alloc ?_ _) | (with_reducible refine bel_drewN ?_ _) | (with_reducible refine bel_drew ?_) | (with_reducible refine bel_trans ?_ (by assumption)))); done))
      | ((refine step_append_drow (by rfl) _ _ 24 (by rfl) w1 WB.heap.size 38 info_SeenNonce rfl Try.underlying24 _ _ x [(n, a)] (by rfl) (by rfl) (HR1.out.mono (by have := hv1.size; simp only [size_drewN, World.size_drew]; omega)) (bel_alloc hb2 _) (Src.litE 38 (ow_SeenNonce_mk (x := (n, a)) how2 i2) hfr2 (by first | rfl | simp only [World.size_alloc])) (by rw [List.length_singleton]; omega) (by rw [List.length_singleton]; unfold maxLen; omega) (by have := hv1.size; omega) ?_); intro v' w' hr' hg'; have hq := HS.out _ (bel_alloc hv2 (.cells #[.slice A2 (List.length n) c2, .int .i64 a] 38)); have hro := HR1.out.block; simp only [size_drewN, World.size_drew] at hro; have hne : some w.heap.size ≠ v1.ownBlock := fun e => (by have := (hro _ e.symm).1; omega); have hz : Below w.heap.size w w' ∧ w'.cell? ⟨w.heap.size, 0, none⟩ = some (.slice A0 n.length c0) := ⟨bel_grown hq.1 hq.1.size hg' (fun g hg => (by have := (hro g hg).1; omega)), hg'.cell hq.2 hne⟩)
      | fail)
  have hr2 : DRow tSeenNonce w' WB.heap.size 38 v' (snOut x n a) := hr'
  obtain ⟨A9, c9, fp9, rfl, how9, hfr9⟩ := hr2.own
  clear hr' hr2
  by_cases h24 : 24 < (snOut x n a).length
  · have HE := Lib.hid (show f_AddSeenNonce x n a = (snOut x n a).drop 1 from by rw [HF.out, if_pos h24])
    obtain ⟨b9, o9, ds9, rfl, _⟩ := Ty.rd_at (k := 0) (Ty.ow_rd how9) (show 0 < (snOut x n a).length by omega)
    have hcle : (snOut x n a).length ≤ c9 := by
      obtain ⟨_, c9', hcc, hcle, _⟩ := how9
      injection hcc with hcc _
      injection hcc with _ _ hcc
      subst hcc
      exact hcle
    obtain ⟨fp8, how8, hfr8⟩ := Ty.ow_tail how9 (by omega) hfr9
    have hc1 : 1 < c9 := by omega
    have hsl : ((snOut x n a).drop 1).length = (snOut x n a).length - 1 := List.length_drop
    go_wp2
    go_ret
    rw [HE.out]
    exact ⟨_, _, fp8, by rw [hsl]; rfl, by rw [hsl]; exact how8, hfr8.mono (by have := hvb.size; omega) (Nat.le_refl _), hz.1⟩
  · have HE := Lib.hid (show f_AddSeenNonce x n a = snOut x n a from by rw [HF.out, if_neg h24])
    go_wp2
    go_ret
    rw [HE.out]
    exact ⟨A9, c9, fp9, rfl, how9, hfr9.mono (by have := hvb.size; omega) (Nat.le_refl _), hz.1⟩
end Go.Proofs.Ytldgbnlcnlfmeaa
