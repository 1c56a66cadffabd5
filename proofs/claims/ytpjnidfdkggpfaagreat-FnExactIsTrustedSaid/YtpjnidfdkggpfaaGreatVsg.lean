/- Signatures are verified. Printed by gen17.py. -/
import Derived.Test.YtpjnidfdkggpfaaGreatVer
import Derived.Test.YtpjnidfdkggpfaaGreatKdg
namespace Go.Proofs.YtpjnidfdkggpfaaGreat
open Go.RowKit
set_option linter.unusedVariables false
set_option linter.unusedSimpArgs false

def f_VerifySignature (l : List (Ty.D tKey)) (x : tData.D) : Bool := f_VerifyData (f_SecretOf l x.2.2.1) x
theorem keyName_bulk {x : tData.D} (s : Ty.bulk tData x ≤ 1048576) : Ty.bulk (.sl .str) x.2.2.1 ≤ 1048576 := by
  have h1 : Ty.bulk (.sl .str) x.1 + (Ty.bulk (.sl .byte) x.2.1 + (Ty.bulk (.sl .str) x.2.2.1 + (0 + 0))) ≤ 1048576 := s
  omega
set_option maxHeartbeats 4000000 in
theorem C_impl_VerifySignature (w : World) (v : Value) (l : List (Ty.D tKey)) (cs : List Value) (x : tData.D) (h1 : (Ty.sl tKey).rd w [v] l) (h : tData.rd w cs x) (s0 : Ty.bulk (.sl tKey) l ≤ 1048576) (s1 : Ty.bulk tData x ≤ 1048576) :
    Calls Tryz.prog 47 #[v, .agg cs.toArray] w (RetB w (f_VerifySignature l x)) := by
  have h' := h
  obtain ⟨A0, c0, A1, c1, A2, c2, rfl, g0, g1, g2, b3, b4⟩ := rd_Data h
  have hbd := secret_bd x.2.2.1 h1
  have hkb := keyName_bulk s1
  have kb0 : (w.alloc (.cells #[.slice A0 (List.length x.1) c0, .slice A1 (List.length x.2.1) c1, .slice A2 (List.length x.2.2.1) c2, .int .i64 x.2.2.2.1, .int .i64 x.2.2.2.2] 46)).cell? ⟨w.heap.size, 0, none⟩ = some (.slice A0 (List.length x.1) c0) := cell_new w _ _ 0 rfl
  have kb1 : (w.alloc (.cells #[.slice A0 (List.length x.1) c0, .slice A1 (List.length x.2.1) c1, .slice A2 (List.length x.2.2.1) c2, .int .i64 x.2.2.2.1, .int .i64 x.2.2.2.2] 46)).cell? ⟨w.heap.size, 1, none⟩ = some (.slice A1 (List.length x.2.1) c1) := cell_new w _ _ 1 rfl
  have kb2 : (w.alloc (.cells #[.slice A0 (List.length x.1) c0, .slice A1 (List.length x.2.1) c1, .slice A2 (List.length x.2.2.1) c2, .int .i64 x.2.2.2.1, .int .i64 x.2.2.2.2] 46)).cell? ⟨w.heap.size, 2, none⟩ = some (.slice A2 (List.length x.2.2.1) c2) := cell_new w _ _ 2 rfl
  have kb3 : (w.alloc (.cells #[.slice A0 (List.length x.1) c0, .slice A1 (List.length x.2.1) c1, .slice A2 (List.length x.2.2.1) c2, .int .i64 x.2.2.2.1, .int .i64 x.2.2.2.2] 46)).cell? ⟨w.heap.size, 3, none⟩ = some (.int .i64 x.2.2.2.1) := cell_new w _ _ 3 rfl
  have kb4 : (w.alloc (.cells #[.slice A0 (List.length x.1) c0, .slice A1 (List.length x.2.1) c1, .slice A2 (List.length x.2.2.1) c2, .int .i64 x.2.2.2.1, .int .i64 x.2.2.2.2] 46)).cell? ⟨w.heap.size, 4, none⟩ = some (.int .i64 x.2.2.2.2) := cell_new w _ _ 4 rfl
  have hvb : Below w.heap.size w (w.alloc (.cells #[.slice A0 (List.length x.1) c0, .slice A1 (List.length x.2.1) c1, .slice A2 (List.length x.2.2.1) c2, .int .i64 x.2.2.2.1, .int .i64 x.2.2.2.2] 46)) := (by repeat' (first | (with_reducible exact Below.refl _ _) | (with_reducible assumption) | (with_reducible refine bel_set ?_ (by (try dsimp only); omega) _) | (with_reducible refine bel_alloc ?_ _) | (with_reducible refine bel_drewN ?_ _) | (with_reducible refine bel_drew ?_)))
  have zb : w.heap.size < (w.alloc (.cells #[.slice A0 (List.length x.1) c0, .slice A1 (List.length x.2.1) c1, .slice A2 (List.length x.2.2.1) c2, .int .i64 x.2.2.2.1, .int .i64 x.2.2.2.2] 46)).heap.size := by rw [World.size_alloc]; omega
  have zb0 := Lib.hid (show (w.alloc (.cells #[.slice A0 (List.length x.1) c0, .slice A1 (List.length x.2.1) c1, .slice A2 (List.length x.2.2.1) c2, .int .i64 x.2.2.2.1, .int .i64 x.2.2.2.2] 46)).heap.size = w.heap.size + 1 from by rw [World.size_alloc])
  go_enter Tryz.func47, Tryz.ntmps47
  go_wp2_with fail
  generalize (w.alloc (.cells #[.slice A0 (List.length x.1) c0, .slice A1 (List.length x.2.1) c1, .slice A2 (List.length x.2.2.1) c2, .int .i64 x.2.2.2.1, .int .i64 x.2.2.2.2] 46)) = WX at kb0 kb1 kb2 kb3 kb4 hvb zb zb0 ⊢
  have HC : Hid (∀ W, Below WX.heap.size WX W → W.cell? ⟨w.heap.size, 0, none⟩ = some (.slice A0 (List.length x.1) c0) ∧ W.cell? ⟨w.heap.size, 1, none⟩ = some (.slice A1 (List.length x.2.1) c1) ∧ W.cell? ⟨w.heap.size, 2, none⟩ = some (.slice A2 (List.length x.2.2.1) c2) ∧ W.cell? ⟨w.heap.size, 3, none⟩ = some (.int .i64 x.2.2.2.1) ∧ W.cell? ⟨w.heap.size, 4, none⟩ = some (.int .i64 x.2.2.2.2)) := fun W hW => ⟨(hW.cell (p := ⟨w.heap.size, 0, none⟩) zb).trans kb0, (hW.cell (p := ⟨w.heap.size, 1, none⟩) zb).trans kb1, (hW.cell (p := ⟨w.heap.size, 2, none⟩) zb).trans kb2, (hW.cell (p := ⟨w.heap.size, 3, none⟩) zb).trans kb3, (hW.cell (p := ⟨w.heap.size, 4, none⟩) zb).trans kb4⟩
  clear kb0 kb1 kb2 kb3 kb4
  have HS : Hid (∀ W, Below WX.heap.size WX W → Below WX.heap.size WX W ∧ W.cell? ⟨w.heap.size, 0, none⟩ = some (.slice A0 (List.length x.1) c0) ∧ W.cell? ⟨w.heap.size, 1, none⟩ = some (.slice A1 (List.length x.2.1) c1) ∧ W.cell? ⟨w.heap.size, 2, none⟩ = some (.slice A2 (List.length x.2.2.1) c2) ∧ W.cell? ⟨w.heap.size, 3, none⟩ = some (.int .i64 x.2.2.2.1) ∧ W.cell? ⟨w.heap.size, 4, none⟩ = some (.int .i64 x.2.2.2.2)) := fun W hW => ⟨hW, HC.out W hW⟩
  set_option maxRecDepth 100000 in go_region_held3 (fun W => Below WX.heap.size WX W ∧ W.cell? ⟨w.heap.size, 0, none⟩ = some (.slice A0 (List.length x.1) c0) ∧ W.cell? ⟨w.heap.size, 1, none⟩ = some (.slice A1 (List.length x.2.1) c1) ∧ W.cell? ⟨w.heap.size, 2, none⟩ = some (.slice A2 (List.length x.2.2.1) c2) ∧ W.cell? ⟨w.heap.size, 3, none⟩ = some (.int .i64 x.2.2.2.1) ∧ W.cell? ⟨w.heap.size, 4, none⟩ = some (.int .i64 x.2.2.2.2)) (exact HS.out _ (by (repeat' (first | (with_reducible exact Below.refl _ _) | (with_reducible assumption) | (with_reducible refine bel_set ?_ (by (try dsimp only); omega) _) | (with_reducible refine bel_alloc ?_ _) | (with_reducible refine bel_drewN ?_ _) | (with_reducible refine bel_drew ?_) | (with_reducible refine bel_trans ?_ (by assumption)))); done))
    (first
      | (go_at_call 68; (with_reducible refine (C_impl_SecretOf _ _ l _ x.2.2.1 (Ty.rd_below (by (repeat' (first | (with_reducible exact Below.refl _ _) | (with_reducible assumption) | (with_reducible refine bel_set ?_ (by (try dsimp only); omega) _) | (with_reducible refine bel_alloc ?_ _) | (with_reducible refine bel_drewN ?_ _) | (with_reducible refine bel_drew ?_) | (with_reducible refine bel_trans ?_ (by assumption)))); done) (Ty.rd_below hvb h1)) (Ty.rd_below (by (repeat' (first | (with_reducible exact Below.refl _ _) | (with_reducible assumption) | (with_reducible refine bel_set ?_ (by (try dsimp only); omega) _) | (with_reducible refine bel_alloc ?_ _) | (with_reducible refine bel_drewN ?_ _) | (with_reducible refine bel_drew ?_) | (with_reducible refine bel_trans ?_ (by assumption)))); done) (Ty.rd_below hvb g2)) s0 hkb).mono ?_); rintro e w1 ⟨rfl, hb1⟩)
      | (go_at_call 67; (with_reducible refine (C_impl_VerifyData _ _ _ x (Ty.rd_below (by (repeat' (first | (with_reducible exact Below.refl _ _) | (with_reducible assumption) | (with_reducible refine bel_set ?_ (by (try dsimp only); omega) _) | (with_reducible refine bel_alloc ?_ _) | (with_reducible refine bel_drewN ?_ _) | (with_reducible refine bel_drew ?_) | (with_reducible refine bel_trans ?_ (by assumption)))); done) (Ty.rd_below hvb h')) hbd s1).mono ?_); rintro e w2 ⟨rfl, hb2⟩)
      | fail)
  all_goals
    go_wp2
    go_ret
    exact ⟨rfl, bel_trans hvb (by (repeat' (first | (with_reducible exact Below.refl _ _) | (with_reducible assumption) | (with_reducible refine bel_set ?_ (by (try dsimp only); omega) _) | (with_reducible refine bel_alloc ?_ _) | (with_reducible refine bel_drewN ?_ _) | (with_reducible refine bel_drew ?_) | (with_reducible refine bel_trans ?_ (by assumption)))); done)⟩
set_option maxHeartbeats 4000000 in
theorem C_spec_VerifySignature (w : World) (v : Value) (l : List (Ty.D tKey)) (cs : List Value) (x : tData.D) (h1 : (Ty.sl tKey).rd w [v] l) (h : tData.rd w cs x) (s0 : Ty.bulk (.sl tKey) l ≤ 1048576) (s1 : Ty.bulk tData x ≤ 1048576) :
    Calls Tryz.prog 37 #[v, .agg cs.toArray] w (RetB w (f_VerifySignature l x)) := by
  have h' := h
  obtain ⟨A0, c0, A1, c1, A2, c2, rfl, g0, g1, g2, b3, b4⟩ := rd_Data h
  have hbd := secret_bd x.2.2.1 h1
  have hkb := keyName_bulk s1
  have kb0 : (w.alloc (.cells #[.slice A0 (List.length x.1) c0, .slice A1 (List.length x.2.1) c1, .slice A2 (List.length x.2.2.1) c2, .int .i64 x.2.2.2.1, .int .i64 x.2.2.2.2] 46)).cell? ⟨w.heap.size, 0, none⟩ = some (.slice A0 (List.length x.1) c0) := cell_new w _ _ 0 rfl
  have kb1 : (w.alloc (.cells #[.slice A0 (List.length x.1) c0, .slice A1 (List.length x.2.1) c1, .slice A2 (List.length x.2.2.1) c2, .int .i64 x.2.2.2.1, .int .i64 x.2.2.2.2] 46)).cell? ⟨w.heap.size, 1, none⟩ = some (.slice A1 (List.length x.2.1) c1) := cell_new w _ _ 1 rfl
  have kb2 : (w.alloc (.cells #[.slice A0 (List.length x.1) c0, .slice A1 (List.length x.2.1) c1, .slice A2 (List.length x.2.2.1) c2, .int .i64 x.2.2.2.1, .int .i64 x.2.2.2.2] 46)).cell? ⟨w.heap.size, 2, none⟩ = some (.slice A2 (List.length x.2.2.1) c2) := cell_new w _ _ 2 rfl
  have kb3 : (w.alloc (.cells #[.slice A0 (List.length x.1) c0, .slice A1 (List.length x.2.1) c1, .slice A2 (List.length x.2.2.1) c2, .int .i64 x.2.2.2.1, .int .i64 x.2.2.2.2] 46)).cell? ⟨w.heap.size, 3, none⟩ = some (.int .i64 x.2.2.2.1) := cell_new w _ _ 3 rfl
  have kb4 : (w.alloc (.cells #[.slice A0 (List.length x.1) c0, .slice A1 (List.length x.2.1) c1, .slice A2 (List.length x.2.2.1) c2, .int .i64 x.2.2.2.1, .int .i64 x.2.2.2.2] 46)).cell? ⟨w.heap.size, 4, none⟩ = some (.int .i64 x.2.2.2.2) := cell_new w _ _ 4 rfl
  have hvb : Below w.heap.size w (w.alloc (.cells #[.slice A0 (List.length x.1) c0, .slice A1 (List.length x.2.1) c1, .slice A2 (List.length x.2.2.1) c2, .int .i64 x.2.2.2.1, .int .i64 x.2.2.2.2] 46)) := (by repeat' (first | (with_reducible exact Below.refl _ _) | (with_reducible assumption) | (with_reducible refine bel_set ?_ (by (try dsimp only); omega) _) | (with_reducible refine bel_alloc ?_ _) | (with_reducible refine bel_drewN ?_ _) | (with_reducible refine bel_drew ?_)))
  have zb : w.heap.size < (w.alloc (.cells #[.slice A0 (List.length x.1) c0, .slice A1 (List.length x.2.1) c1, .slice A2 (List.length x.2.2.1) c2, .int .i64 x.2.2.2.1, .int .i64 x.2.2.2.2] 46)).heap.size := by rw [World.size_alloc]; omega
  have zb0 := Lib.hid (show (w.alloc (.cells #[.slice A0 (List.length x.1) c0, .slice A1 (List.length x.2.1) c1, .slice A2 (List.length x.2.2.1) c2, .int .i64 x.2.2.2.1, .int .i64 x.2.2.2.2] 46)).heap.size = w.heap.size + 1 from by rw [World.size_alloc])
  go_enter Tryz.func37, Tryz.ntmps37
  go_wp2_with fail
  generalize (w.alloc (.cells #[.slice A0 (List.length x.1) c0, .slice A1 (List.length x.2.1) c1, .slice A2 (List.length x.2.2.1) c2, .int .i64 x.2.2.2.1, .int .i64 x.2.2.2.2] 46)) = WX at kb0 kb1 kb2 kb3 kb4 hvb zb zb0 ⊢
  have HC : Hid (∀ W, Below WX.heap.size WX W → W.cell? ⟨w.heap.size, 0, none⟩ = some (.slice A0 (List.length x.1) c0) ∧ W.cell? ⟨w.heap.size, 1, none⟩ = some (.slice A1 (List.length x.2.1) c1) ∧ W.cell? ⟨w.heap.size, 2, none⟩ = some (.slice A2 (List.length x.2.2.1) c2) ∧ W.cell? ⟨w.heap.size, 3, none⟩ = some (.int .i64 x.2.2.2.1) ∧ W.cell? ⟨w.heap.size, 4, none⟩ = some (.int .i64 x.2.2.2.2)) := fun W hW => ⟨(hW.cell (p := ⟨w.heap.size, 0, none⟩) zb).trans kb0, (hW.cell (p := ⟨w.heap.size, 1, none⟩) zb).trans kb1, (hW.cell (p := ⟨w.heap.size, 2, none⟩) zb).trans kb2, (hW.cell (p := ⟨w.heap.size, 3, none⟩) zb).trans kb3, (hW.cell (p := ⟨w.heap.size, 4, none⟩) zb).trans kb4⟩
  clear kb0 kb1 kb2 kb3 kb4
  have HS : Hid (∀ W, Below WX.heap.size WX W → Below WX.heap.size WX W ∧ W.cell? ⟨w.heap.size, 0, none⟩ = some (.slice A0 (List.length x.1) c0) ∧ W.cell? ⟨w.heap.size, 1, none⟩ = some (.slice A1 (List.length x.2.1) c1) ∧ W.cell? ⟨w.heap.size, 2, none⟩ = some (.slice A2 (List.length x.2.2.1) c2) ∧ W.cell? ⟨w.heap.size, 3, none⟩ = some (.int .i64 x.2.2.2.1) ∧ W.cell? ⟨w.heap.size, 4, none⟩ = some (.int .i64 x.2.2.2.2)) := fun W hW => ⟨hW, HC.out W hW⟩
  set_option maxRecDepth 100000 in go_region_held3 (fun W => Below WX.heap.size WX W ∧ W.cell? ⟨w.heap.size, 0, none⟩ = some (.slice A0 (List.length x.1) c0) ∧ W.cell? ⟨w.heap.size, 1, none⟩ = some (.slice A1 (List.length x.2.1) c1) ∧ W.cell? ⟨w.heap.size, 2, none⟩ = some (.slice A2 (List.length x.2.2.1) c2) ∧ W.cell? ⟨w.heap.size, 3, none⟩ = some (.int .i64 x.2.2.2.1) ∧ W.cell? ⟨w.heap.size, 4, none⟩ = some (.int .i64 x.2.2.2.2)) (exact HS.out _ (by (repeat' (first | (with_reducible exact Below.refl _ _) | (with_reducible assumption) | (with_reducible refine bel_set ?_ (by (try dsimp only); omega) _) | (with_reducible refine bel_alloc ?_ _) | (with_reducible refine bel_drewN ?_ _) | (with_reducible refine bel_drew ?_) | (with_reducible refine bel_trans ?_ (by assumption)))); done))
    (first
      | (go_at_call 59; (with_reducible refine (C_spec_SecretOf _ _ l _ x.2.2.1 (Ty.rd_below (by (repeat' (first | (with_reducible exact Below.refl _ _) | (with_reducible assumption) | (with_reducible refine bel_set ?_ (by (try dsimp only); omega) _) | (with_reducible refine bel_alloc ?_ _) | (with_reducible refine bel_drewN ?_ _) | (with_reducible refine bel_drew ?_) | (with_reducible refine bel_trans ?_ (by assumption)))); done) (Ty.rd_below hvb h1)) (Ty.rd_below (by (repeat' (first | (with_reducible exact Below.refl _ _) | (with_reducible assumption) | (with_reducible refine bel_set ?_ (by (try dsimp only); omega) _) | (with_reducible refine bel_alloc ?_ _) | (with_reducible refine bel_drewN ?_ _) | (with_reducible refine bel_drew ?_) | (with_reducible refine bel_trans ?_ (by assumption)))); done) (Ty.rd_below hvb g2)) s0 hkb).mono ?_); rintro e w1 ⟨rfl, hb1⟩)
      | (go_at_call 58; (with_reducible refine (C_spec_VerifyData _ _ _ x (Ty.rd_below (by (repeat' (first | (with_reducible exact Below.refl _ _) | (with_reducible assumption) | (with_reducible refine bel_set ?_ (by (try dsimp only); omega) _) | (with_reducible refine bel_alloc ?_ _) | (with_reducible refine bel_drewN ?_ _) | (with_reducible refine bel_drew ?_) | (with_reducible refine bel_trans ?_ (by assumption)))); done) (Ty.rd_below hvb h')) hbd s1).mono ?_); rintro e w2 ⟨rfl, hb2⟩)
      | fail)
  all_goals
    go_wp2
    go_ret
    exact ⟨rfl, bel_trans hvb (by (repeat' (first | (with_reducible exact Below.refl _ _) | (with_reducible assumption) | (with_reducible refine bel_set ?_ (by (try dsimp only); omega) _) | (with_reducible refine bel_alloc ?_ _) | (with_reducible refine bel_drewN ?_ _) | (with_reducible refine bel_drew ?_) | (with_reducible refine bel_trans ?_ (by assumption)))); done)⟩
end Go.Proofs.YtpjnidfdkggpfaaGreat
