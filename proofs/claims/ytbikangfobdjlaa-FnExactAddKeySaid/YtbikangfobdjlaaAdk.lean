/- A key is added. -/
import Derived.Test.YtbikangfobdjlaaRet
import Derived.Test.YtbikangfobdjlaaNb
import Derived.Test.YtbikangfobdjlaaCpk
import Derived.Test.YtbikangfobdjlaaVky
namespace Go.Proofs.Ytbikangfobdjlaa
open Go.RowKit
set_option linter.unusedVariables false
set_option linter.unusedSimpArgs false

def f0_AddKey (x : List (Ty.D tKey)) (q : Ty.D tKey) : List (Ty.D tKey) := if f_ValidKeys (x ++ [q]) then x ++ [q] else x
def f1_AddKey (x : List (Ty.D tKey)) (q : Ty.D tKey) : Bool := f_ValidKeys (x ++ [q])
theorem N_AddKey {x : List (Ty.D tKey)} {q : Ty.D tKey} (s0 : Ty.bulk (.sl tKey) x ≤ 1048576) (s1 : Ty.bulk tKey q ≤ 1048576) : Ty.cnt (.sl tKey) (f0_AddKey x q) ≤ 100000000000 := by
  refine cnt_bd (t := .sl tKey) (B := 3000000) ?_ (by decide)
  unfold f0_AddKey
  split
  · rw [bulk_app, bulk_one]; omega
  · omega
set_option maxHeartbeats 4000000 in
theorem C_impl_AddKey (w : World) (v : Value) (x : List (Ty.D tKey)) (cs2 : List Value) (q : Ty.D tKey) (h1 : (Ty.sl tKey).rd w [v] x) (h2 : Ty.rd w tKey cs2 q) (s0 : Ty.bulk (.sl tKey) x ≤ 1048576) (s1 : Ty.bulk tKey q ≤ 1048576) :
    Calls Try.prog 60 #[v, .agg cs2.toArray] w (RetSl2 w tKey (f0_AddKey x q) (.bool (f1_AddKey x q))) := by
  obtain ⟨Aa0, ca0, rfl, sag0, sag1⟩ := rd_Key h2
  have hxl := Ty.bulk_len s0
  have hbk2 : q.1.length ≤ 1000000000000 := by
    have h1 : Ty.bulk (.sl .str) q.1 + 0 ≤ 1048576 := s1
    have := Ty.bulk_len (e := .str) (x := q.1) (n := 1048576) (by omega)
    omega
  have hF0 : f0_AddKey x q = if f_ValidKeys (x ++ [q]) then x ++ [q] else x := rfl
  have hF1 : f1_AddKey x q = f_ValidKeys (x ++ [q]) := rfl
  generalize f0_AddKey x q = F0 at hF0 ⊢
  generalize f1_AddKey x q = F1 at hF1 ⊢
  have HF0 := Lib.hid hF0
  have HF1 := Lib.hid hF1
  clear hF0 hF1
  have HS : Hid (∀ W, Below (w.alloc (.cells #[.slice Aa0 (List.length q.1) ca0, .int .i64 q.2] 75)).heap.size (w.alloc (.cells #[.slice Aa0 (List.length q.1) ca0, .int .i64 q.2] 75)) W →
      Below w.heap.size w W ∧ W.cell? ⟨w.heap.size, 0, none⟩ = some (.slice Aa0 (List.length q.1) ca0) ∧ W.cell? ⟨w.heap.size, 1, none⟩ = some (.int .i64 q.2)) := fun W hW =>
    ⟨bel_trans (by repeat' (first | (with_reducible exact Below.refl _ _) | (with_reducible assumption) | (with_reducible refine bel_set ?_ (by (try dsimp only); omega) _) | (with_reducible refine bel_alloc ?_ _) | (with_reducible refine bel_drewN ?_ _) | (with_reducible refine bel_drew ?_))) hW, (hW.cell (by simp only [World.size_alloc]; omega)).trans (cell_new w _ _ 0 rfl), (hW.cell (by simp only [World.size_alloc]; omega)).trans (cell_new w _ _ 1 rfl)⟩
  have hv0 : Below (w.alloc (.cells #[.slice Aa0 (List.length q.1) ca0, .int .i64 q.2] 75)).heap.size (w.alloc (.cells #[.slice Aa0 (List.length q.1) ca0, .int .i64 q.2] 75)) (w.alloc (.cells #[.slice Aa0 (List.length q.1) ca0, .int .i64 q.2] 75)) := Below.refl _ _
  go_enter Try.func60, Try.ntmps60
  go_wp2_with fail
  set_option maxRecDepth 100000 in go_region_held3 (fun W => Below w.heap.size w W ∧ W.cell? ⟨w.heap.size, 0, none⟩ = some (.slice Aa0 (List.length q.1) ca0) ∧ W.cell? ⟨w.heap.size, 1, none⟩ = some (.int .i64 q.2)) (first | (exact hz) | (exact HS.out _ (by repeat' (first | (with_reducible exact Below.refl _ _) | (with_reducible assumption) | (with_reducible refine bel_set ?_ (by (try dsimp only); omega) _) | (with_reducible refine bel_alloc ?_ _) | (with_reducible refine bel_drewN ?_ _) | (with_reducible refine bel_drew ?_)))))
    (first
      | (go_at_call 107; (with_reducible refine (C_impl_copyKeys _ _ x (Ty.rd_below (bel_trans (bel_alloc (Below.refl _ _) _) (by repeat' (first | (with_reducible exact Below.refl _ _) | (with_reducible assumption) | (with_reducible refine bel_set ?_ (by (try dsimp only); omega) _) | (with_reducible refine bel_alloc ?_ _) | (with_reducible refine bel_drewN ?_ _) | (with_reducible refine bel_drew ?_)))) h1) (Nat.le_trans s0 (by decide))).mono ?_); rintro e w1 ⟨v1, rfl, hr1, hb1⟩; have HR1 := Lib.hid hr1; have hv1 : Below (w.alloc (.cells #[.slice Aa0 (List.length q.1) ca0, .int .i64 q.2] 75)).heap.size (w.alloc (.cells #[.slice Aa0 (List.length q.1) ca0, .int .i64 q.2] 75)) w1 := bel_trans (by repeat' (first | (with_reducible exact Below.refl _ _) | (with_reducible assumption) | (with_reducible refine bel_set ?_ (by (try dsimp only); omega) _) | (with_reducible refine bel_alloc ?_ _) | (with_reducible refine bel_drewN ?_ _) | (with_reducible refine bel_drew ?_))) hb1)
      | (go_at_call 108; (with_reducible refine (C_impl_copyName _ _ q.1 (Ty.rd_below (bel_trans (bel_alloc (Below.refl _ _) _) (by repeat' (first | (with_reducible exact Below.refl _ _) | (with_reducible assumption) | (with_reducible refine bel_set ?_ (by (try dsimp only); omega) _) | (with_reducible refine bel_alloc ?_ _) | (with_reducible refine bel_drewN ?_ _) | (with_reducible refine bel_drew ?_)))) sag0) hbk2).mono ?_); rintro e w2 ⟨cs2, fp2, rfl, how2, hfr2, hb2⟩; obtain ⟨A2, c2, rfl⟩ := Ty.ow_slv how2; have hv2 : Below (w.alloc (.cells #[.slice Aa0 (List.length q.1) ca0, .int .i64 q.2] 75)).heap.size (w.alloc (.cells #[.slice Aa0 (List.length q.1) ca0, .int .i64 q.2] 75)) w2 := bel_trans (by repeat' (first | (with_reducible exact Below.refl _ _) | (with_reducible assumption) | (with_reducible refine bel_set ?_ (by (try dsimp only); omega) _) | (with_reducible refine bel_alloc ?_ _) | (with_reducible refine bel_drewN ?_ _) | (with_reducible refine bel_drew ?_))) hb2)
      | ((refine step_append_drow (by rfl) _ _ 41 (by rfl) w1 (w.heap.size + 1) 75 info_Key rfl Try.underlying41 _ _ x [q] (by rfl) (by rfl) (HR1.out.mono (by simp only [size_drewN, World.size_drew, World.size_alloc]; omega)) (bel_alloc hb2 _) (Src.litE 75 (ow_Key_mk how2 sag1) hfr2 (by first | rfl | simp only [World.size_alloc])) (by rw [List.length_singleton]; omega) (by rw [List.length_singleton]; unfold maxLen; omega) (by have := hv1.size; simp only [World.size_alloc] at this; omega) ?_); intro v' w' hr' hg'; have hq := HS.out _ (bel_alloc hv2 (.cells #[.slice A2 (List.length q.1) c2, .int .i64 q.2] 75)); have hro := HR1.out.block; simp only [size_drewN, World.size_drew, World.size_alloc] at hro; have hne : some w.heap.size ≠ v1.ownBlock := fun e => (by have := (hro _ e.symm).1; omega); have hz : Below w.heap.size w w' ∧ w'.cell? ⟨w.heap.size, 0, none⟩ = some (.slice Aa0 (List.length q.1) ca0) ∧ w'.cell? ⟨w.heap.size, 1, none⟩ = some (.int .i64 q.2) := ⟨bel_grown hq.1 hq.1.size hg' (fun g hg => (by have := (hro g hg).1; omega)), hg'.cell hq.2.1 hne, hg'.cell hq.2.2 hne⟩))
  have HR' := Lib.hid hr'
  clear hr'
  go_wp2_with fail
  refine (C_impl_ValidKeysG _ _ (x ++ [q]) HR'.out.rd).mono ?_
  rintro e w3 ⟨rfl, hb3⟩
  have hw3 : Below w.heap.size w w3 := bel_trans hz.1 hb3
  cases q0 : f_ValidKeys (x ++ [q])
  · rw [q0] at HF0 HF1
    go_wp2_with fail
    refine (C_impl_copyKeys _ _ x (Ty.rd_below hw3 h1) (Nat.le_trans s0 (by decide))).mono ?_
    rintro e w4 ⟨v4, rfl, hr4, hb4⟩
    obtain ⟨A4, c4, fp4, rfl, how4, hfr4⟩ := hr4.own
    clear hr4
    have hw4 : Below w.heap.size w w4 := bel_trans hw3 hb4
    go_wp2
    go_ret2
    have e0 : F0 = x := HF0.out
    have e1 : F1 = false := HF1.out
    subst e0; subst e1
    exact ⟨A4, c4, fp4, rfl, how4, hfr4.mono hw3.size (Nat.le_refl _), hw4⟩
  · rw [q0] at HF0 HF1
    obtain ⟨A4, c4, fp4, rfl, how4, hfr4⟩ := (HR'.out.below hb3).own
    clear HR'
    go_wp2
    go_ret2
    have e0 : F0 = x ++ [q] := HF0.out
    have e1 : F1 = true := HF1.out
    subst e0; subst e1
    exact ⟨A4, c4, fp4, by first | rfl | simp, how4, hfr4.mono (by omega) (Nat.le_refl _), hw3⟩
set_option maxHeartbeats 4000000 in
theorem C_spec_AddKey (w : World) (v : Value) (x : List (Ty.D tKey)) (cs2 : List Value) (q : Ty.D tKey) (h1 : (Ty.sl tKey).rd w [v] x) (h2 : Ty.rd w tKey cs2 q) (s0 : Ty.bulk (.sl tKey) x ≤ 1048576) (s1 : Ty.bulk tKey q ≤ 1048576) :
    Calls Try.prog 58 #[v, .agg cs2.toArray] w (RetSl2 w tKey (f0_AddKey x q) (.bool (f1_AddKey x q))) := by
  obtain ⟨Aa0, ca0, rfl, sag0, sag1⟩ := rd_Key h2
  have hxl := Ty.bulk_len s0
  have hbk2 : q.1.length ≤ 1000000000000 := by
    have h1 : Ty.bulk (.sl .str) q.1 + 0 ≤ 1048576 := s1
    have := Ty.bulk_len (e := .str) (x := q.1) (n := 1048576) (by omega)
    omega
  have hF0 : f0_AddKey x q = if f_ValidKeys (x ++ [q]) then x ++ [q] else x := rfl
  have hF1 : f1_AddKey x q = f_ValidKeys (x ++ [q]) := rfl
  generalize f0_AddKey x q = F0 at hF0 ⊢
  generalize f1_AddKey x q = F1 at hF1 ⊢
  have HF0 := Lib.hid hF0
  have HF1 := Lib.hid hF1
  clear hF0 hF1
  have HS : Hid (∀ W, Below (w.alloc (.cells #[.slice Aa0 (List.length q.1) ca0, .int .i64 q.2] 75)).heap.size (w.alloc (.cells #[.slice Aa0 (List.length q.1) ca0, .int .i64 q.2] 75)) W →
      Below w.heap.size w W ∧ W.cell? ⟨w.heap.size, 0, none⟩ = some (.slice Aa0 (List.length q.1) ca0) ∧ W.cell? ⟨w.heap.size, 1, none⟩ = some (.int .i64 q.2)) := fun W hW =>
    ⟨bel_trans (by repeat' (first | (with_reducible exact Below.refl _ _) | (with_reducible assumption) | (with_reducible refine bel_set ?_ (by (try dsimp only); omega) _) | (with_reducible refine bel_alloc ?_ _) | (with_reducible refine bel_drewN ?_ _) | (with_reducible refine bel_drew ?_))) hW, (hW.cell (by simp only [World.size_alloc]; omega)).trans (cell_new w _ _ 0 rfl), (hW.cell (by simp only [World.size_alloc]; omega)).trans (cell_new w _ _ 1 rfl)⟩
  have hv0 : Below (w.alloc (.cells #[.slice Aa0 (List.length q.1) ca0, .int .i64 q.2] 75)).heap.size (w.alloc (.cells #[.slice Aa0 (List.length q.1) ca0, .int .i64 q.2] 75)) (w.alloc (.cells #[.slice Aa0 (List.length q.1) ca0, .int .i64 q.2] 75)) := Below.refl _ _
  go_enter Try.func58, Try.ntmps58
  go_wp2_with fail
  set_option maxRecDepth 100000 in go_region_held3 (fun W => Below w.heap.size w W ∧ W.cell? ⟨w.heap.size, 0, none⟩ = some (.slice Aa0 (List.length q.1) ca0) ∧ W.cell? ⟨w.heap.size, 1, none⟩ = some (.int .i64 q.2)) (first | (exact hz) | (exact HS.out _ (by repeat' (first | (with_reducible exact Below.refl _ _) | (with_reducible assumption) | (with_reducible refine bel_set ?_ (by (try dsimp only); omega) _) | (with_reducible refine bel_alloc ?_ _) | (with_reducible refine bel_drewN ?_ _) | (with_reducible refine bel_drew ?_)))))
    (first
      | (go_at_call 105; (with_reducible refine (C_spec_l9Copy _ _ x (Ty.rd_below (bel_trans (bel_alloc (Below.refl _ _) _) (by repeat' (first | (with_reducible exact Below.refl _ _) | (with_reducible assumption) | (with_reducible refine bel_set ?_ (by (try dsimp only); omega) _) | (with_reducible refine bel_alloc ?_ _) | (with_reducible refine bel_drewN ?_ _) | (with_reducible refine bel_drew ?_)))) h1) (Nat.le_trans s0 (by decide))).mono ?_); rintro e w1 ⟨v1, rfl, hr1, hb1⟩; have HR1 := Lib.hid hr1; have hv1 : Below (w.alloc (.cells #[.slice Aa0 (List.length q.1) ca0, .int .i64 q.2] 75)).heap.size (w.alloc (.cells #[.slice Aa0 (List.length q.1) ca0, .int .i64 q.2] 75)) w1 := bel_trans (by repeat' (first | (with_reducible exact Below.refl _ _) | (with_reducible assumption) | (with_reducible refine bel_set ?_ (by (try dsimp only); omega) _) | (with_reducible refine bel_alloc ?_ _) | (with_reducible refine bel_drewN ?_ _) | (with_reducible refine bel_drew ?_))) hb1)
      | (go_at_call 106; (with_reducible refine (C_spec_l4Copy _ _ q.1 (Ty.rd_below (bel_trans (bel_alloc (Below.refl _ _) _) (by repeat' (first | (with_reducible exact Below.refl _ _) | (with_reducible assumption) | (with_reducible refine bel_set ?_ (by (try dsimp only); omega) _) | (with_reducible refine bel_alloc ?_ _) | (with_reducible refine bel_drewN ?_ _) | (with_reducible refine bel_drew ?_)))) sag0) hbk2).mono ?_); rintro e w2 ⟨cs2, fp2, rfl, how2, hfr2, hb2⟩; obtain ⟨A2, c2, rfl⟩ := Ty.ow_slv how2; have hv2 : Below (w.alloc (.cells #[.slice Aa0 (List.length q.1) ca0, .int .i64 q.2] 75)).heap.size (w.alloc (.cells #[.slice Aa0 (List.length q.1) ca0, .int .i64 q.2] 75)) w2 := bel_trans (by repeat' (first | (with_reducible exact Below.refl _ _) | (with_reducible assumption) | (with_reducible refine bel_set ?_ (by (try dsimp only); omega) _) | (with_reducible refine bel_alloc ?_ _) | (with_reducible refine bel_drewN ?_ _) | (with_reducible refine bel_drew ?_))) hb2)
      | ((refine step_append_drow (by rfl) _ _ 41 (by rfl) w1 (w.heap.size + 1) 75 info_Key rfl Try.underlying41 _ _ x [q] (by rfl) (by rfl) (HR1.out.mono (by simp only [size_drewN, World.size_drew, World.size_alloc]; omega)) (bel_alloc hb2 _) (Src.litE 75 (ow_Key_mk how2 sag1) hfr2 (by first | rfl | simp only [World.size_alloc])) (by rw [List.length_singleton]; omega) (by rw [List.length_singleton]; unfold maxLen; omega) (by have := hv1.size; simp only [World.size_alloc] at this; omega) ?_); intro v' w' hr' hg'; have hq := HS.out _ (bel_alloc hv2 (.cells #[.slice A2 (List.length q.1) c2, .int .i64 q.2] 75)); have hro := HR1.out.block; simp only [size_drewN, World.size_drew, World.size_alloc] at hro; have hne : some w.heap.size ≠ v1.ownBlock := fun e => (by have := (hro _ e.symm).1; omega); have hz : Below w.heap.size w w' ∧ w'.cell? ⟨w.heap.size, 0, none⟩ = some (.slice Aa0 (List.length q.1) ca0) ∧ w'.cell? ⟨w.heap.size, 1, none⟩ = some (.int .i64 q.2) := ⟨bel_grown hq.1 hq.1.size hg' (fun g hg => (by have := (hro g hg).1; omega)), hg'.cell hq.2.1 hne, hg'.cell hq.2.2 hne⟩))
  have HR' := Lib.hid hr'
  clear hr'
  go_wp2_with fail
  refine (C_spec_ValidKeysG _ _ (x ++ [q]) HR'.out.rd).mono ?_
  rintro e w3 ⟨rfl, hb3⟩
  have hw3 : Below w.heap.size w w3 := bel_trans hz.1 hb3
  cases q0 : f_ValidKeys (x ++ [q])
  · rw [q0] at HF0 HF1
    go_wp2_with fail
    refine (C_spec_l9Copy _ _ x (Ty.rd_below hw3 h1) (Nat.le_trans s0 (by decide))).mono ?_
    rintro e w4 ⟨v4, rfl, hr4, hb4⟩
    obtain ⟨A4, c4, fp4, rfl, how4, hfr4⟩ := hr4.own
    clear hr4
    have hw4 : Below w.heap.size w w4 := bel_trans hw3 hb4
    go_wp2
    go_ret2
    have e0 : F0 = x := HF0.out
    have e1 : F1 = false := HF1.out
    subst e0; subst e1
    exact ⟨A4, c4, fp4, rfl, how4, hfr4.mono hw3.size (Nat.le_refl _), hw4⟩
  · rw [q0] at HF0 HF1
    obtain ⟨A4, c4, fp4, rfl, how4, hfr4⟩ := (HR'.out.below hb3).own
    clear HR'
    go_wp2
    go_ret2
    have e0 : F0 = x ++ [q] := HF0.out
    have e1 : F1 = true := HF1.out
    subst e0; subst e1
    exact ⟨A4, c4, fp4, by first | rfl | simp, how4, hfr4.mono (by omega) (Nat.le_refl _), hw3⟩
end Go.Proofs.Ytbikangfobdjlaa
