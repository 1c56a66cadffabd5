/- Seen nonces: the row is kept. Printed by gen47.py. -/
import Derived.Test.YtldgbnlcnlfmeaaCur
import Derived.Test.YtldgbnlcnlfmeaaAsn
namespace Go.Proofs.Ytldgbnlcnlfmeaa
open Go.RowKit
set_option linter.unusedVariables false
set_option linter.unusedSimpArgs false

theorem DRow.dr {e : Ty} {B : Nat} {w w' : World} {base : Nat} {te : TypeId} {v : Value} {x : List e.D} (h : DRow e w base te v x) (hd : Dr B w w') (hB : B < base) : DRow e w' base te v x := by
  obtain ⟨css, fs, h1, h2, h3, h4⟩ := h
  refine ⟨css, fs, ⟨h1.1, ?_⟩, fun i hi => ⟨(h2 i hi).1, Dr.ow hd (h2 i hi).2 (fun hm => ?_)⟩, h3.mono (Nat.le_refl _) hd.size, h4⟩
  · rcases h1.2 with hn | ⟨g, cap, cur, rfl, hbg, hgg, rest⟩
    · exact .inl hn
    · exact .inr ⟨g, cap, cur, rfl, hbg, (Dr.block hd (Blk.lt (t := te) (cs := cur) hgg) (by omega)).trans hgg, rest⟩
  · have hm2 : B ∈ (List.range x.length).flatMap fs := List.mem_flatMap.2 ⟨i, List.mem_range.2 hi, hm⟩
    have := (h3.2 B hm2).1; omega
theorem DRow.rdH {e : Ty} {B : Nat} {w : World} {base : Nat} {te : TypeId} {v : Value} {x : List e.D} (h : DRow e w base te v x) (hB : B < base) : (Ty.sl e).rd (hide B w) [v] x := by
  obtain ⟨A, c, fp, _, how, hfr⟩ := h.own
  exact Ty.ow_rd (ow_hideF how hfr hB)
theorem f_AddSeenNonce_short {s : List (Ty.D tSeenNonce)} {n : List (List UInt8)} {a : Int} (h : s.length < 24) : f_AddSeenNonce s n a = s ++ [(n, a)] := by
  unfold f_AddSeenNonce
  rw [if_neg (by rw [snOut_len]; omega)]
  rfl
set_option maxRecDepth 100000 in
set_option maxHeartbeats 1000000 in
theorem C_spec_AddSeenNonceR (w : World) (v : Value) (x : List (Ty.D tSeenNonce)) (cs2 : List Value) (n : List (List UInt8)) (a : Int) (h1 : (Ty.sl tSeenNonce).rd w [v] x) (h2 : (Ty.sl .str).rd w cs2 n) (s0 : Ty.bulk (.sl tSeenNonce) x ≤ 1048576) (s1 : Ty.bulk (.sl .str) n ≤ 1048576) (h23 : x.length < 24) (i2 : -9223372036854775808 ≤ a ∧ a ≤ 9223372036854775807) :
    Calls Try.prog 11 #[v, .agg cs2.toArray, .int .i64 a] w (RetDRow tSeenNonce w 38 (snOut x n a)) := by
  obtain ⟨A0, c0, rfl⟩ := Ty.rd_slv h2
  have hxl := Ty.bulk_len s0
  have hnl := Ty.bulk_len s1
  have HLN := Lib.hid (snOut_len x n a)
  have kb0 : (w.alloc (.cells #[.slice A0 n.length c0] 27)).cell? ⟨w.heap.size, 0, none⟩ = some (.slice A0 n.length c0) := cell_new w _ _ 0 rfl
  have hvb : Below w.heap.size w (w.alloc (.cells #[.slice A0 n.length c0] 27)) := (by repeat' (first | (with_reducible exact Below.refl _ _) | (with_reducible assumption) | (with_reducible refine bel_set ?_ (by (try dsimp only); omega) _) | (with_reducible refine bel_alloc ?_ _) | (with_reducible refine bel_drewN ?_ _) | (with_reducible refine bel_drew ?_)))
  have zb0 : (w.alloc (.cells #[.slice A0 n.length c0] 27)).heap.size = w.heap.size + 1 := by rw [World.size_alloc]
  go_enter Try.func11, Try.ntmps11
  go_wp2_with fail
  generalize (w.alloc (.cells #[.slice A0 n.length c0] 27)) = WB at kb0 hvb zb0 ⊢
  have zb : w.heap.size < WB.heap.size := by omega
  have HS : Hid (∀ W, Below WB.heap.size WB W → Below w.heap.size w W ∧ W.cell? ⟨w.heap.size, 0, none⟩ = some (.slice A0 n.length c0)) := fun W hW => ⟨bel_trans hvb hW, (hW.cell (p := ⟨w.heap.size, 0, none⟩) zb).trans kb0⟩
  clear kb0 zb0
  have hv0 : Below WB.heap.size WB WB := Below.refl _ _
  go_region_held3 (fun W => Below w.heap.size w W ∧ W.cell? ⟨w.heap.size, 0, none⟩ = some (.slice A0 n.length c0)) (first | (exact hz) | (exact HS.out _ (by (repeat' (first | (with_reducible exact Below.refl _ _) | (with_reducible assumption) | (with_reducible refine bel_set ?_ (by (try dsimp only); omega) _) | (with_reducible refine bel_alloc ?_ _) | (with_reducible refine bel_drewN ?_ _) | (with_reducible refine bel_drew ?_) | (with_reducible refine bel_trans ?_ (by assumption)))); done)))
    (first
      | (go_at_call 72; (with_reducible refine (C_spec_l13Seen _ _ x (Ty.rd_below (by (repeat' (first | (with_reducible exact Below.refl _ _) | (with_reducible assumption) | (with_reducible refine bel_set ?_ (by (try dsimp only); omega) _) | (with_reducible refine bel_alloc ?_ _) | (with_reducible refine bel_drewN ?_ _) | (with_reducible refine bel_drew ?_) | (with_reducible refine bel_trans ?_ (by assumption)))); done) (Ty.rd_below hvb h1)) (Nat.le_trans s0 (by decide))).mono ?_); rintro e w1 ⟨v1, rfl, hr1, hb1⟩; have HR1 := Lib.hid hr1; have hv1 : Below WB.heap.size WB w1 := (by (repeat' (first | (with_reducible exact Below.refl _ _) | (with_reducible assumption) | (with_reducible refine bel_set ?_ (by (try dsimp only); omega) _) | (with_reducible refine bel_alloc ?_ _) | (with_reducible refine bel_drewN ?_ _) | (with_reducible refine bel_drew ?_) | (with_reducible refine bel_trans ?_ (by assumption)))); done))
      | (go_at_call 73; (with_reducible refine (C_spec_l4Copy _ _ n (Ty.rd_below (by (repeat' (first | (with_reducible exact Below.refl _ _) | (with_reducible assumption) | (with_reducible refine bel_set ?_ (by (try dsimp only); omega) _) | (with_reducible refine bel_alloc ?_ _) | (with_reducible refine bel_drewN ?_ _) | (with_reducible refine bel_drew ?_) | (with_reducible refine bel_trans ?_ (by assumption)))); done) (Ty.rd_below hvb h2)) (Nat.le_trans hnl (by decide))).mono ?_); rintro e w2 ⟨cs2, fp2, rfl, how2, hfr2, hb2⟩; obtain ⟨A2, c2, rfl⟩ := Ty.ow_slv how2; have hv2 : Below WB.heap.size WB w2 := (by (repeat' (first | (with_reducible exact Below.refl _ _) | (with_reducible assumption) | (with_reducible refine bel_set ?_ (by (try dsimp only); omega) _) | (with_reducible refine bel_alloc ?_ _) | (with_reducible refine bel_drewN ?_ _) | (with_reducible refine bel_drew ?_) | (with_reducible refine bel_trans ?_ (by assumption)))); done))
      | ((refine step_append_drow (by rfl) _ _ 24 (by rfl) w1 WB.heap.size 38 info_SeenNonce rfl Try.underlying24 _ _ x [(n, a)] (by rfl) (by rfl) (HR1.out.mono (by have := hv1.size; simp only [size_drewN, World.size_drew]; omega)) (bel_alloc hb2 _) (Src.litE 38 (ow_SeenNonce_mk (x := (n, a)) how2 i2) hfr2 (by first | rfl | simp only [World.size_alloc])) (by rw [List.length_singleton]; omega) (by rw [List.length_singleton]; unfold maxLen; omega) (by have := hv1.size; omega) ?_); intro v' w' hr' hg'; have hq := HS.out _ (bel_alloc hv2 (.cells #[.slice A2 (List.length n) c2, .int .i64 a] 38)); have hro := HR1.out.block; simp only [size_drewN, World.size_drew] at hro; have hne : some w.heap.size ≠ v1.ownBlock := fun e => (by have := (hro _ e.symm).1; omega); have hz : Below w.heap.size w w' ∧ w'.cell? ⟨w.heap.size, 0, none⟩ = some (.slice A0 n.length c0) := ⟨bel_grown hq.1 hq.1.size hg' (fun g hg => (by have := (hro g hg).1; omega)), hg'.cell hq.2 hne⟩)
      | fail)
  have hr2 : DRow tSeenNonce w' WB.heap.size 38 v' (snOut x n a) := hr'
  obtain ⟨A9, c9, rfl⟩ := hr2.form
  clear hr'
  have h24 : ¬ 24 < (snOut x n a).length := by have := HLN.out; omega
  have HR2 := Lib.hid hr2
  go_wp2
  go_ret
  exact ⟨_, rfl, HR2.out.mono (by have := hvb.size; omega), hz.1⟩
end Go.Proofs.Ytldgbnlcnlfmeaa
