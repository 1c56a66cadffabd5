/- Rules as text. -/
import Derived.Test.YtpjnidfdkggpfaaDoorFmt
import Derived.Test.YtpjnidfdkggpfaaDoorHlp
import Derived.Test.YtpjnidfdkggpfaaDoorNb
namespace Go.Proofs.YtpjnidfdkggpfaaDoor
open Go.RowKit
set_option linter.unusedVariables false
set_option linter.unusedSimpArgs false

def fmtA (x : tRule.D) : List UInt8 := fmtP x.1 ++ [32, 60, 32]
def f_FormatRule (x : tRule.D) : List UInt8 := fmtA x ++ fmtP x.2
theorem rule_parts {x : tRule.D} (s0 : Ty.bulk tRule x ≤ 1048576) : Ty.bulk (.sl .str) x.1 ≤ 1000000000 ∧ Ty.bulk (.sl .str) x.2 ≤ 1000000000 := by
  have h1 : Ty.bulk (.sl .str) x.1 + Ty.bulk (.sl .str) x.2 ≤ 1048576 := s0
  exact ⟨by omega, by omega⟩
theorem fmtA_len {x : tRule.D} (s0 : Ty.bulk tRule x ≤ 1048576) : (fmtA x).length ≤ 1048580 := by
  have h1 : Ty.bulk (.sl .str) x.1 + Ty.bulk (.sl .str) x.2 ≤ 1048576 := s0
  have h2 := fmtP_len x.1
  unfold fmtA; rw [List.length_append]; simp; omega
theorem formatRule_len {x : tRule.D} (s0 : Ty.bulk tRule x ≤ 1048576) : (f_FormatRule x).length ≤ 2100000 := by
  have h1 : Ty.bulk (.sl .str) x.1 + Ty.bulk (.sl .str) x.2 ≤ 1048576 := s0
  have h2 := fmtA_len s0
  have h3 := fmtP_len x.2
  unfold f_FormatRule; rw [List.length_append]; omega
set_option maxHeartbeats 4000000 in
theorem C_impl_FormatRule (w : World) (cs : List Value) (x : tRule.D) (h : tRule.rd w cs x) (s0 : Ty.bulk tRule x ≤ 1048576) :
    Calls Tryd.prog 28 #[.agg cs.toArray] w (RetStr w (f_FormatRule x)) := by
  obtain ⟨A0, c0, A1, c1, rfl, g0, g1⟩ := rd_Rule h
  obtain ⟨b1, b2⟩ := rule_parts s0
  have hc1 := cat_eq (P := Tryd.prog) (fmtP x.1) [32, 60, 32] (fmtA x) rfl (Nat.le_trans (fmtA_len s0) (by decide))
  have hc2 := cat_eq (P := Tryd.prog) (fmtA x) (fmtP x.2) (f_FormatRule x) rfl (Nat.le_trans (formatRule_len s0) (by decide))
  have kb0 : (w.alloc (.cells #[.slice A0 (List.length x.1) c0, .slice A1 (List.length x.2) c1] 37)).cell? ⟨w.heap.size, 0, none⟩ = some (.slice A0 (List.length x.1) c0) := cell_new w _ _ 0 rfl
  have kb1 : (w.alloc (.cells #[.slice A0 (List.length x.1) c0, .slice A1 (List.length x.2) c1] 37)).cell? ⟨w.heap.size, 1, none⟩ = some (.slice A1 (List.length x.2) c1) := cell_new w _ _ 1 rfl
  have hvb : Below w.heap.size w (w.alloc (.cells #[.slice A0 (List.length x.1) c0, .slice A1 (List.length x.2) c1] 37)) := (by repeat' (first | (with_reducible exact Below.refl _ _) | (with_reducible assumption) | (with_reducible refine bel_set ?_ (by (try dsimp only); omega) _) | (with_reducible refine bel_alloc ?_ _) | (with_reducible refine bel_drewN ?_ _) | (with_reducible refine bel_drew ?_)))
  have hzb : w.heap.size < (w.alloc (.cells #[.slice A0 (List.length x.1) c0, .slice A1 (List.length x.2) c1] 37)).heap.size := by rw [World.size_alloc]; omega
  go_enter Tryd.func28, Tryd.ntmps28
  go_wp2_with fail
  generalize w.alloc (.cells #[.slice A0 (List.length x.1) c0, .slice A1 (List.length x.2) c1] 37) = WB at kb0 kb1 hvb hzb ⊢
  have HS : Hid (∀ W, Below WB.heap.size WB W → Below w.heap.size w W ∧ W.cell? ⟨w.heap.size, 0, none⟩ = some (.slice A0 (List.length x.1) c0) ∧ W.cell? ⟨w.heap.size, 1, none⟩ = some (.slice A1 (List.length x.2) c1)) := fun W hW => ⟨bel_trans hvb hW, (hW.cell (p := ⟨w.heap.size, 0, none⟩) hzb).trans kb0, (hW.cell (p := ⟨w.heap.size, 1, none⟩) hzb).trans kb1⟩
  clear kb0 kb1
  have hv0 : Below WB.heap.size WB WB := Below.refl _ _
  set_option maxRecDepth 100000 in go_region_held3 (fun W => Below w.heap.size w W ∧ W.cell? ⟨w.heap.size, 0, none⟩ = some (.slice A0 (List.length x.1) c0) ∧ W.cell? ⟨w.heap.size, 1, none⟩ = some (.slice A1 (List.length x.2) c1)) (exact HS.out _ (by (repeat' (first | (with_reducible exact Below.refl _ _) | (with_reducible assumption) | (with_reducible refine bel_set ?_ (by (try dsimp only); omega) _) | (with_reducible refine bel_alloc ?_ _) | (with_reducible refine bel_drewN ?_ _) | (with_reducible refine bel_drew ?_) | (with_reducible refine bel_trans ?_ (by assumption)))); done))
    (first
      | (go_at_call 43; (with_reducible refine (C_impl_FormatPattern _ _ x.1 (Ty.rd_below (by (repeat' (first | (with_reducible exact Below.refl _ _) | (with_reducible assumption) | (with_reducible refine bel_set ?_ (by (try dsimp only); omega) _) | (with_reducible refine bel_alloc ?_ _) | (with_reducible refine bel_drewN ?_ _) | (with_reducible refine bel_drew ?_) | (with_reducible refine bel_trans ?_ (by assumption)))); done) (Ty.rd_below hvb g0)) b1).mono ?_); rintro e w1 ⟨rfl, hb1⟩)
      | (go_at_call 43; (with_reducible refine (C_impl_FormatPattern _ _ x.2 (Ty.rd_below (by (repeat' (first | (with_reducible exact Below.refl _ _) | (with_reducible assumption) | (with_reducible refine bel_set ?_ (by (try dsimp only); omega) _) | (with_reducible refine bel_alloc ?_ _) | (with_reducible refine bel_drewN ?_ _) | (with_reducible refine bel_drew ?_) | (with_reducible refine bel_trans ?_ (by assumption)))); done) (Ty.rd_below hvb g1)) b2).mono ?_); rintro e w2 ⟨rfl, hb2⟩)
      | fail)
  all_goals
    go_wp2
    go_ret
    exact ⟨rfl, (by (repeat' (first | (with_reducible exact Below.refl _ _) | (with_reducible assumption) | (with_reducible refine bel_set ?_ (by (try dsimp only); omega) _) | (with_reducible refine bel_alloc ?_ _) | (with_reducible refine bel_drewN ?_ _) | (with_reducible refine bel_drew ?_) | (with_reducible refine bel_trans ?_ (by assumption)))); done)⟩
end Go.Proofs.YtpjnidfdkggpfaaDoor
