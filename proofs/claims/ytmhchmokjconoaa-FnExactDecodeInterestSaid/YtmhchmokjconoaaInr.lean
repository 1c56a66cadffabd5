/- Interests: checked, and as bytes. Printed by gen10.py. -/
import Derived.Test.YtmhchmokjconoaaEda
namespace Go.Proofs.Ytmhchmokjconoaa
open Go.RowKit
set_option linter.unusedVariables false
set_option linter.unusedSimpArgs false

def f_ValidInterest (x : tInterest.D) : Bool := validName x.1 && (decide (0 < x.1.length) && (inR x.2.1 0 1000000 && (inR x.2.2.1 0 16 && inR x.2.2.2 1 20)))
def f_EncodeInterest (x : tInterest.D) : List UInt8 := if f_ValidInterest x then f_AppendName [] x.1 ++ f_EncodeInts [x.2.1, x.2.2.1, x.2.2.2] else []
theorem encInterest_len (x : tInterest.D) : (f_EncodeInterest x).length ≤ 1000 := by
  have h1 := appendName_len [] x.1
  have h4 := encodeInts_len [x.2.1, x.2.2.1, x.2.2.2]
  simp only [List.length_nil, List.length_cons] at h1 h4
  unfold f_EncodeInterest
  split
  · rw [List.length_append]; omega
  · simp
theorem N_EncodeInterest {x : tInterest.D} (s0 : Ty.bulk tInterest x ≤ 1048576) : Ty.cnt (.sl .byte) (f_EncodeInterest x) ≤ 100000000000 := cnt_bytes _ (Nat.le_trans (encInterest_len x) (by decide))
theorem rd_litI3' {w W : World} {te : TypeId} {g : Nat} {n m k : Int} (hg : g = w.heap.size) (hn : -9223372036854775808 ≤ n ∧ n ≤ 9223372036854775807) (hm : -9223372036854775808 ≤ m ∧ m ≤ 9223372036854775807) (hk : -9223372036854775808 ≤ k ∧ k ≤ 9223372036854775807) (hb : Below (w.alloc (.cells #[.int .i64 n, .int .i64 m, .int .i64 k] te)).heap.size (w.alloc (.cells #[.int .i64 n, .int .i64 m, .int .i64 k] te)) W) :
    (Ty.sl .int).rd W [.slice (some ⟨g, 0, none⟩) 3 3] [n, m, k] := rd_lit3' (e := .int) rfl hg ⟨rfl, hn⟩ ⟨rfl, hm⟩ ⟨rfl, hk⟩ hb
set_option maxHeartbeats 1000000 in
theorem C_spec_ValidInterest (w : World) (cs1 : List Value) (x : tInterest.D) (h1 : tInterest.rd w cs1 x) :
    Calls Try.prog 83 #[.agg cs1.toArray] w (RetB w (f_ValidInterest x)) := by
  obtain ⟨A0, c0, rfl, g0, b1, b2, b3⟩ := rd_Interest h1
  obtain ⟨_, _, _, _, _, n0⟩ := Ty.rd_sl g0
  have hF : f_ValidInterest x = (validName x.1 && (decide (0 < x.1.length) && (inR x.2.1 0 1000000 && (inR x.2.2.1 0 16 && inR x.2.2.2 1 20)))) := rfl
  generalize f_ValidInterest x = F at hF ⊢
  have HF := Lib.hid hF
  clear hF
  go_enter Try.func83, Try.ntmps83
  go_wp2_with fail
  refine (C_spec_ValidName _ _ _ (Ty.rd_below (by repeat' (first | (with_reducible exact Below.refl _ _) | (with_reducible assumption) | (with_reducible refine bel_set ?_ (by (try dsimp only); omega) _) | (with_reducible refine bel_alloc ?_ _) | (with_reducible refine bel_drewN ?_ _) | (with_reducible refine bel_drew ?_))) g0)).mono ?_
  rintro e w1 ⟨rfl, hb1⟩
  have hw1 : Below w.heap.size w w1 := bel_trans (by repeat' (first | (with_reducible exact Below.refl _ _) | (with_reducible assumption) | (with_reducible refine bel_set ?_ (by (try dsimp only); omega) _) | (with_reducible refine bel_alloc ?_ _) | (with_reducible refine bel_drewN ?_ _) | (with_reducible refine bel_drew ?_))) hb1
  obtain ⟨hc1, hf1⟩ := bcell hb1
  have z10 : w.heap.size < w1.heap.size := by have := hb1.size; simp only [World.size_alloc] at this; omega
  cases q0 : validName x.1
  · rw [q0] at HF
    go_wp2
    go_ret
    exact ⟨ret_bool (by rw [HF.out]; rfl), hw1⟩
  rw [q0] at HF
  by_cases hl1 : 0 < x.1.length
  rotate_left
  · have H1 := Lib.hid hl1
    go_wp2
    go_ret
    exact ⟨ret_bool (by rw [HF.out]; simp [H1.out]), hw1⟩
  have H1 := Lib.hid hl1
  go_wp2_with fail
  refine (C_spec_l1In _ _ _ _).mono ?_
  rintro e w3 ⟨rfl, rfl⟩
  cases q4 : inR x.2.1 0 1000000
  · rw [q4] at HF
    go_wp2
    go_ret
    exact ⟨ret_bool (by rw [HF.out]; simp), hw1⟩
  rw [q4] at HF
  go_wp2_with fail
  refine (C_spec_l1In _ _ _ _).mono ?_
  rintro e w4 ⟨rfl, rfl⟩
  cases q5 : inR x.2.2.1 0 16
  · rw [q5] at HF
    go_wp2
    go_ret
    exact ⟨ret_bool (by rw [HF.out]; simp), hw1⟩
  rw [q5] at HF
  go_wp2_with fail
  refine (C_spec_l1In _ _ _ _).mono ?_
  rintro e w5 ⟨rfl, rfl⟩
  go_wp2
  go_ret
  exact ⟨ret_bool (by rw [HF.out]; simp [H1.out]), hw1⟩
set_option maxHeartbeats 1000000 in
theorem C_impl_ValidInterest (w : World) (cs1 : List Value) (x : tInterest.D) (h1 : tInterest.rd w cs1 x) :
    Calls Try.prog 86 #[.agg cs1.toArray] w (RetB w (f_ValidInterest x)) := by
  obtain ⟨A0, c0, rfl, g0, b1, b2, b3⟩ := rd_Interest h1
  obtain ⟨_, _, _, _, _, n0⟩ := Ty.rd_sl g0
  have hF : f_ValidInterest x = (validName x.1 && (decide (0 < x.1.length) && (inR x.2.1 0 1000000 && (inR x.2.2.1 0 16 && inR x.2.2.2 1 20)))) := rfl
  generalize f_ValidInterest x = F at hF ⊢
  have HF := Lib.hid hF
  clear hF
  go_enter Try.func86, Try.ntmps86
  go_wp2_with fail
  refine (C_impl_ValidName _ _ _ (Ty.rd_below (by repeat' (first | (with_reducible exact Below.refl _ _) | (with_reducible assumption) | (with_reducible refine bel_set ?_ (by (try dsimp only); omega) _) | (with_reducible refine bel_alloc ?_ _) | (with_reducible refine bel_drewN ?_ _) | (with_reducible refine bel_drew ?_))) g0)).mono ?_
  rintro e w1 ⟨rfl, hb1⟩
  have hw1 : Below w.heap.size w w1 := bel_trans (by repeat' (first | (with_reducible exact Below.refl _ _) | (with_reducible assumption) | (with_reducible refine bel_set ?_ (by (try dsimp only); omega) _) | (with_reducible refine bel_alloc ?_ _) | (with_reducible refine bel_drewN ?_ _) | (with_reducible refine bel_drew ?_))) hb1
  obtain ⟨hc1, hf1⟩ := bcell hb1
  have z10 : w.heap.size < w1.heap.size := by have := hb1.size; simp only [World.size_alloc] at this; omega
  cases q0 : validName x.1
  · rw [q0] at HF
    go_wp2
    go_ret
    exact ⟨ret_bool (by rw [HF.out]; rfl), hw1⟩
  rw [q0] at HF
  by_cases hl1 : 0 < x.1.length
  rotate_left
  · have H1 := Lib.hid hl1
    go_wp2
    go_ret
    exact ⟨ret_bool (by rw [HF.out]; simp [H1.out]), hw1⟩
  have H1 := Lib.hid hl1
  go_wp2_with fail
  refine (C_impl_InRange _ _ _ _).mono ?_
  rintro e w3 ⟨rfl, rfl⟩
  cases q4 : inR x.2.1 0 1000000
  · rw [q4] at HF
    go_wp2
    go_ret
    exact ⟨ret_bool (by rw [HF.out]; simp), hw1⟩
  rw [q4] at HF
  go_wp2_with fail
  refine (C_impl_InRange _ _ _ _).mono ?_
  rintro e w4 ⟨rfl, rfl⟩
  cases q5 : inR x.2.2.1 0 16
  · rw [q5] at HF
    go_wp2
    go_ret
    exact ⟨ret_bool (by rw [HF.out]; simp), hw1⟩
  rw [q5] at HF
  go_wp2_with fail
  refine (C_impl_InRange _ _ _ _).mono ?_
  rintro e w5 ⟨rfl, rfl⟩
  go_wp2
  go_ret
  exact ⟨ret_bool (by rw [HF.out]; simp [H1.out]), hw1⟩
set_option maxHeartbeats 8000000 in
theorem C_impl_EncodeInterest (w : World) (cs : List Value) (x : tInterest.D) (h : tInterest.rd w cs x) (s0 : Ty.bulk tInterest x ≤ 1048576) :
    Calls Try.prog 46 #[.agg cs.toArray] w (RetSl w .byte (f_EncodeInterest x)) := by
  obtain ⟨A0, c0, rfl, g0, b1, b2, b3⟩ := rd_Interest h
  have kb0 : (w.alloc (.cells #[.slice A0 (List.length x.1) c0, .int .i64 x.2.1, .int .i64 x.2.2.1, .int .i64 x.2.2.2] 67)).cell? ⟨w.heap.size, 0, none⟩ = some (.slice A0 (List.length x.1) c0) := cell_new w _ _ 0 rfl
  have kb1 : (w.alloc (.cells #[.slice A0 (List.length x.1) c0, .int .i64 x.2.1, .int .i64 x.2.2.1, .int .i64 x.2.2.2] 67)).cell? ⟨w.heap.size, 1, none⟩ = some (.int .i64 x.2.1) := cell_new w _ _ 1 rfl
  have kb2 : (w.alloc (.cells #[.slice A0 (List.length x.1) c0, .int .i64 x.2.1, .int .i64 x.2.2.1, .int .i64 x.2.2.2] 67)).cell? ⟨w.heap.size, 2, none⟩ = some (.int .i64 x.2.2.1) := cell_new w _ _ 2 rfl
  have kb3 : (w.alloc (.cells #[.slice A0 (List.length x.1) c0, .int .i64 x.2.1, .int .i64 x.2.2.1, .int .i64 x.2.2.2] 67)).cell? ⟨w.heap.size, 3, none⟩ = some (.int .i64 x.2.2.2) := cell_new w _ _ 3 rfl
  have hvb : Below w.heap.size w (w.alloc (.cells #[.slice A0 (List.length x.1) c0, .int .i64 x.2.1, .int .i64 x.2.2.1, .int .i64 x.2.2.2] 67)) := (by repeat' (first | (with_reducible exact Below.refl _ _) | (with_reducible assumption) | (with_reducible refine bel_set ?_ (by (try dsimp only); omega) _) | (with_reducible refine bel_alloc ?_ _) | (with_reducible refine bel_drewN ?_ _) | (with_reducible refine bel_drew ?_)))
  have hzb : w.heap.size < (w.alloc (.cells #[.slice A0 (List.length x.1) c0, .int .i64 x.2.1, .int .i64 x.2.2.1, .int .i64 x.2.2.2] 67)).heap.size := by rw [World.size_alloc]; omega
  have HF := Lib.hid (show f_EncodeInterest x = if f_ValidInterest x then f_AppendName [] x.1 ++ f_EncodeInts [x.2.1, x.2.2.1, x.2.2.2] else [] from rfl)
  have HLA : Hid ((f_AppendName [] x.1).length + (f_EncodeInts [x.2.1, x.2.2.1, x.2.2.2]).length ≤ 1000) := by
    have h1 := appendName_len [] x.1; have h4 := encodeInts_len [x.2.1, x.2.2.1, x.2.2.2]
    simp only [List.length_nil, List.length_cons] at h1 h4
    show _ ≤ _
    omega
  go_enter Try.func46, Try.ntmps46
  go_wp2_with fail
  generalize w.alloc (.cells #[.slice A0 (List.length x.1) c0, .int .i64 x.2.1, .int .i64 x.2.2.1, .int .i64 x.2.2.2] 67) = WB at kb0 kb1 kb2 kb3 hvb hzb ⊢
  have HS : Hid (∀ W, Below WB.heap.size WB W → Below w.heap.size w W ∧ W.cell? ⟨w.heap.size, 0, none⟩ = some (.slice A0 (List.length x.1) c0) ∧ W.cell? ⟨w.heap.size, 1, none⟩ = some (.int .i64 x.2.1) ∧ W.cell? ⟨w.heap.size, 2, none⟩ = some (.int .i64 x.2.2.1) ∧ W.cell? ⟨w.heap.size, 3, none⟩ = some (.int .i64 x.2.2.2)) := fun W hW => ⟨bel_trans hvb hW, (hW.cell (p := ⟨w.heap.size, 0, none⟩) hzb).trans kb0, (hW.cell (p := ⟨w.heap.size, 1, none⟩) hzb).trans kb1, (hW.cell (p := ⟨w.heap.size, 2, none⟩) hzb).trans kb2, (hW.cell (p := ⟨w.heap.size, 3, none⟩) hzb).trans kb3⟩
  clear kb0 kb1 kb2 kb3
  refine (C_impl_ValidInterest _ _ x (Ty.rd_below hvb h)).mono ?_
  rintro e w1 ⟨rfl, hb1⟩
  have hs1 := HS.out _ hb1
  cases q0 : f_ValidInterest x
  · rw [q0] at HF
    go_wp2
    go_ret
    rw [HF.out]
    exact RetRow.sl (te := 5) (F := flatB) ⟨_, rfl, Row.nil _ _ _ _, hs1.1⟩
  rw [q0] at HF
  obtain ⟨hw1, k0, k1, k2, k3⟩ := hs1
  go_wp2_with fail
  set_option maxRecDepth 100000 in go_region_held3 (fun W => Below w.heap.size w W ∧ W.cell? ⟨w.heap.size, 0, none⟩ = some (.slice A0 (List.length x.1) c0) ∧ W.cell? ⟨w.heap.size, 1, none⟩ = some (.int .i64 x.2.1) ∧ W.cell? ⟨w.heap.size, 2, none⟩ = some (.int .i64 x.2.2.1) ∧ W.cell? ⟨w.heap.size, 3, none⟩ = some (.int .i64 x.2.2.2)) (first | (exact hz) | (exact HS.out _ (by (repeat' (first | (with_reducible exact Below.refl _ _) | (with_reducible assumption) | (with_reducible refine bel_set ?_ (by (try dsimp only); omega) _) | (with_reducible refine bel_alloc ?_ _) | (with_reducible refine bel_drewN ?_ _) | (with_reducible refine bel_drew ?_) | (with_reducible refine bel_trans ?_ (by assumption)))); done)))
    (first
      | (go_at_call 87; (with_reducible refine (C_impl_AppendName _ _ [] _ x.1 (rd_empty _ _) (Ty.rd_below (by (repeat' (first | (with_reducible exact Below.refl _ _) | (with_reducible assumption) | (with_reducible refine bel_set ?_ (by (try dsimp only); omega) _) | (with_reducible refine bel_alloc ?_ _) | (with_reducible refine bel_drewN ?_ _) | (with_reducible refine bel_drew ?_) | (with_reducible refine bel_trans ?_ (by assumption)))); done) (Ty.rd_below hvb g0)) (by simp)).mono ?_); rintro e wa ⟨va, rfl, hra, hba⟩; have HBa := Lib.hid (show Below WB.heap.size WB wa from (by (repeat' (first | (with_reducible exact Below.refl _ _) | (with_reducible assumption) | (with_reducible refine bel_set ?_ (by (try dsimp only); omega) _) | (with_reducible refine bel_alloc ?_ _) | (with_reducible refine bel_drewN ?_ _) | (with_reducible refine bel_drew ?_) | (with_reducible refine bel_trans ?_ (by assumption)))); done)); have HRa := Lib.hid (hra.mono (base' := WB.heap.size) (Below.size (B := WB.heap.size) (w := WB) (by (repeat' (first | (with_reducible exact Below.refl _ _) | (with_reducible assumption) | (with_reducible refine bel_set ?_ (by (try dsimp only); omega) _) | (with_reducible refine bel_alloc ?_ _) | (with_reducible refine bel_drewN ?_ _) | (with_reducible refine bel_drew ?_) | (with_reducible refine bel_trans ?_ (by assumption)))); done))); clear hra)
      | (go_at_call 88; (with_reducible refine (C_impl_EncodeInts _ _ [x.2.1, x.2.2.1, x.2.2.2] (by first | (refine rd_litI3' (w := w1) (te := 3) ?_ b1 b2 b3 ?_; (focus (first | rfl | (symm; apply World.size_alloc) | fail)); ((repeat' (first | (with_reducible exact Below.refl _ _) | (with_reducible assumption) | (with_reducible refine bel_set ?_ (by (try dsimp only); omega) _) | (with_reducible refine bel_alloc ?_ _) | (with_reducible refine bel_drewN ?_ _) | (with_reducible refine bel_drew ?_) | (with_reducible refine bel_trans ?_ (by assumption)))); done)) | (refine rd_litI3' (w := wa) (te := 3) ?_ b1 b2 b3 ?_; (focus (first | rfl | (symm; apply World.size_alloc) | fail)); ((repeat' (first | (with_reducible exact Below.refl _ _) | (with_reducible assumption) | (with_reducible refine bel_set ?_ (by (try dsimp only); omega) _) | (with_reducible refine bel_alloc ?_ _) | (with_reducible refine bel_drewN ?_ _) | (with_reducible refine bel_drew ?_) | (with_reducible refine bel_trans ?_ (by assumption)))); done)) | fail) (by simp)).mono ?_); rintro e we ⟨ve, rfl, hre, hbe⟩; have HBe := Lib.hid (show Below WB.heap.size WB we from (by (repeat' (first | (with_reducible exact Below.refl _ _) | (with_reducible assumption) | (with_reducible refine bel_set ?_ (by (try dsimp only); omega) _) | (with_reducible refine bel_alloc ?_ _) | (with_reducible refine bel_drewN ?_ _) | (with_reducible refine bel_drew ?_) | (with_reducible refine bel_trans ?_ (by assumption)))); done)); have HRe := Lib.hid (hre.mono (base' := WB.heap.size) (Below.size (B := WB.heap.size) (w := WB) (by (repeat' (first | (with_reducible exact Below.refl _ _) | (with_reducible assumption) | (with_reducible refine bel_set ?_ (by (try dsimp only); omega) _) | (with_reducible refine bel_alloc ?_ _) | (with_reducible refine bel_drewN ?_ _) | (with_reducible refine bel_drew ?_) | (with_reducible refine bel_trans ?_ (by assumption)))); done))); clear hre)
      | ((refine step_append_row (by rfl) _ _ 54 (by rfl) flatB WB.heap.size 5 infoB rfl Try.underlying54 _ _ (f_AppendName [] x.1) (f_EncodeInts [x.2.1, x.2.2.1, x.2.2.2]) (by rfl) (by rfl) (HRa.out.below (by (repeat' (first | (with_reducible exact Below.refl _ _) | (with_reducible assumption) | (with_reducible refine bel_set ?_ (by (try dsimp only); omega) _) | (with_reducible refine bel_alloc ?_ _) | (with_reducible refine bel_drewN ?_ _) | (with_reducible refine bel_drew ?_) | (with_reducible refine bel_trans ?_ (by assumption)))); done)) (Ty.rd_below (by (repeat' (first | (with_reducible exact Below.refl _ _) | (with_reducible assumption) | (with_reducible refine bel_set ?_ (by (try dsimp only); omega) _) | (with_reducible refine bel_alloc ?_ _) | (with_reducible refine bel_drewN ?_ _) | (with_reducible refine bel_drew ?_) | (with_reducible refine bel_trans ?_ (by assumption)))); done) (HRe.out.rd HBe.out.size)) (by have := HLA.out; omega) (by have := HLA.out; unfold maxLen; omega) (Below.size (B := WB.heap.size) (w := WB) (by (repeat' (first | (with_reducible exact Below.refl _ _) | (with_reducible assumption) | (with_reducible refine bel_set ?_ (by (try dsimp only); omega) _) | (with_reducible refine bel_alloc ?_ _) | (with_reducible refine bel_drewN ?_ _) | (with_reducible refine bel_drew ?_) | (with_reducible refine bel_trans ?_ (by assumption)))); done)) ?_); intro v' w' hr' hg'; have hne : some w.heap.size ≠ va.ownBlock := fun e => (by have := (HRa.out.block _ e.symm).1; omega); have hz : Below w.heap.size w w' ∧ w'.cell? ⟨w.heap.size, 0, none⟩ = some (.slice A0 (List.length x.1) c0) ∧ w'.cell? ⟨w.heap.size, 1, none⟩ = some (.int .i64 x.2.1) ∧ w'.cell? ⟨w.heap.size, 2, none⟩ = some (.int .i64 x.2.2.1) ∧ w'.cell? ⟨w.heap.size, 3, none⟩ = some (.int .i64 x.2.2.2) := ⟨bel_grown (B := w.heap.size) (by (repeat' (first | (with_reducible exact Below.refl _ _) | (with_reducible assumption) | (with_reducible refine bel_set ?_ (by (try dsimp only); omega) _) | (with_reducible refine bel_alloc ?_ _) | (with_reducible refine bel_drewN ?_ _) | (with_reducible refine bel_drew ?_) | (with_reducible refine bel_trans ?_ (by assumption)))); done) (Below.size (B := w.heap.size) (w := w) (by (repeat' (first | (with_reducible exact Below.refl _ _) | (with_reducible assumption) | (with_reducible refine bel_set ?_ (by (try dsimp only); omega) _) | (with_reducible refine bel_alloc ?_ _) | (with_reducible refine bel_drewN ?_ _) | (with_reducible refine bel_drew ?_) | (with_reducible refine bel_trans ?_ (by assumption)))); done)) hg' (fun g hg => (by have := (HRa.out.block _ hg).1; omega)), hg'.cell (HS.out _ (by (repeat' (first | (with_reducible exact Below.refl _ _) | (with_reducible assumption) | (with_reducible refine bel_set ?_ (by (try dsimp only); omega) _) | (with_reducible refine bel_alloc ?_ _) | (with_reducible refine bel_drewN ?_ _) | (with_reducible refine bel_drew ?_) | (with_reducible refine bel_trans ?_ (by assumption)))); done)).2.1 hne, hg'.cell (HS.out _ (by (repeat' (first | (with_reducible exact Below.refl _ _) | (with_reducible assumption) | (with_reducible refine bel_set ?_ (by (try dsimp only); omega) _) | (with_reducible refine bel_alloc ?_ _) | (with_reducible refine bel_drewN ?_ _) | (with_reducible refine bel_drew ?_) | (with_reducible refine bel_trans ?_ (by assumption)))); done)).2.2.1 hne, hg'.cell (HS.out _ (by (repeat' (first | (with_reducible exact Below.refl _ _) | (with_reducible assumption) | (with_reducible refine bel_set ?_ (by (try dsimp only); omega) _) | (with_reducible refine bel_alloc ?_ _) | (with_reducible refine bel_drewN ?_ _) | (with_reducible refine bel_drew ?_) | (with_reducible refine bel_trans ?_ (by assumption)))); done)).2.2.2.1 hne, hg'.cell (HS.out _ (by (repeat' (first | (with_reducible exact Below.refl _ _) | (with_reducible assumption) | (with_reducible refine bel_set ?_ (by (try dsimp only); omega) _) | (with_reducible refine bel_alloc ?_ _) | (with_reducible refine bel_drewN ?_ _) | (with_reducible refine bel_drew ?_) | (with_reducible refine bel_trans ?_ (by assumption)))); done)).2.2.2.2 hne⟩)
      | fail)
  all_goals (have HR' := Lib.hid hr')
  all_goals (clear hr')
  all_goals go_wp2
  all_goals go_ret
  all_goals rw [HF.out]
  all_goals exact RetRow.sl ⟨_, rfl, HR'.out.mono (by omega), hz.1⟩
set_option maxHeartbeats 8000000 in
theorem C_spec_EncodeInterest (w : World) (cs : List Value) (x : tInterest.D) (h : tInterest.rd w cs x) (s0 : Ty.bulk tInterest x ≤ 1048576) :
    Calls Try.prog 44 #[.agg cs.toArray] w (RetSl w .byte (f_EncodeInterest x)) := by
  obtain ⟨A0, c0, rfl, g0, b1, b2, b3⟩ := rd_Interest h
  have kb0 : (w.alloc (.cells #[.slice A0 (List.length x.1) c0, .int .i64 x.2.1, .int .i64 x.2.2.1, .int .i64 x.2.2.2] 67)).cell? ⟨w.heap.size, 0, none⟩ = some (.slice A0 (List.length x.1) c0) := cell_new w _ _ 0 rfl
  have kb1 : (w.alloc (.cells #[.slice A0 (List.length x.1) c0, .int .i64 x.2.1, .int .i64 x.2.2.1, .int .i64 x.2.2.2] 67)).cell? ⟨w.heap.size, 1, none⟩ = some (.int .i64 x.2.1) := cell_new w _ _ 1 rfl
  have kb2 : (w.alloc (.cells #[.slice A0 (List.length x.1) c0, .int .i64 x.2.1, .int .i64 x.2.2.1, .int .i64 x.2.2.2] 67)).cell? ⟨w.heap.size, 2, none⟩ = some (.int .i64 x.2.2.1) := cell_new w _ _ 2 rfl
  have kb3 : (w.alloc (.cells #[.slice A0 (List.length x.1) c0, .int .i64 x.2.1, .int .i64 x.2.2.1, .int .i64 x.2.2.2] 67)).cell? ⟨w.heap.size, 3, none⟩ = some (.int .i64 x.2.2.2) := cell_new w _ _ 3 rfl
  have hvb : Below w.heap.size w (w.alloc (.cells #[.slice A0 (List.length x.1) c0, .int .i64 x.2.1, .int .i64 x.2.2.1, .int .i64 x.2.2.2] 67)) := (by repeat' (first | (with_reducible exact Below.refl _ _) | (with_reducible assumption) | (with_reducible refine bel_set ?_ (by (try dsimp only); omega) _) | (with_reducible refine bel_alloc ?_ _) | (with_reducible refine bel_drewN ?_ _) | (with_reducible refine bel_drew ?_)))
  have hzb : w.heap.size < (w.alloc (.cells #[.slice A0 (List.length x.1) c0, .int .i64 x.2.1, .int .i64 x.2.2.1, .int .i64 x.2.2.2] 67)).heap.size := by rw [World.size_alloc]; omega
  have HF := Lib.hid (show f_EncodeInterest x = if f_ValidInterest x then f_AppendName [] x.1 ++ f_EncodeInts [x.2.1, x.2.2.1, x.2.2.2] else [] from rfl)
  have HLA : Hid ((f_AppendName [] x.1).length + (f_EncodeInts [x.2.1, x.2.2.1, x.2.2.2]).length ≤ 1000) := by
    have h1 := appendName_len [] x.1; have h4 := encodeInts_len [x.2.1, x.2.2.1, x.2.2.2]
    simp only [List.length_nil, List.length_cons] at h1 h4
    show _ ≤ _
    omega
  go_enter Try.func44, Try.ntmps44
  go_wp2_with fail
  generalize w.alloc (.cells #[.slice A0 (List.length x.1) c0, .int .i64 x.2.1, .int .i64 x.2.2.1, .int .i64 x.2.2.2] 67) = WB at kb0 kb1 kb2 kb3 hvb hzb ⊢
  have HS : Hid (∀ W, Below WB.heap.size WB W → Below w.heap.size w W ∧ W.cell? ⟨w.heap.size, 0, none⟩ = some (.slice A0 (List.length x.1) c0) ∧ W.cell? ⟨w.heap.size, 1, none⟩ = some (.int .i64 x.2.1) ∧ W.cell? ⟨w.heap.size, 2, none⟩ = some (.int .i64 x.2.2.1) ∧ W.cell? ⟨w.heap.size, 3, none⟩ = some (.int .i64 x.2.2.2)) := fun W hW => ⟨bel_trans hvb hW, (hW.cell (p := ⟨w.heap.size, 0, none⟩) hzb).trans kb0, (hW.cell (p := ⟨w.heap.size, 1, none⟩) hzb).trans kb1, (hW.cell (p := ⟨w.heap.size, 2, none⟩) hzb).trans kb2, (hW.cell (p := ⟨w.heap.size, 3, none⟩) hzb).trans kb3⟩
  clear kb0 kb1 kb2 kb3
  refine (C_spec_ValidInterest _ _ x (Ty.rd_below hvb h)).mono ?_
  rintro e w1 ⟨rfl, hb1⟩
  have hs1 := HS.out _ hb1
  cases q0 : f_ValidInterest x
  · rw [q0] at HF
    go_wp2
    go_ret
    rw [HF.out]
    exact RetRow.sl (te := 5) (F := flatB) ⟨_, rfl, Row.lit0 flatB w1 5 hs1.1.size, (by (repeat' (first | (with_reducible exact Below.refl _ _) | (with_reducible assumption) | (with_reducible refine bel_set ?_ (by (try dsimp only); omega) _) | (with_reducible refine bel_alloc ?_ _) | (with_reducible refine bel_drewN ?_ _) | (with_reducible refine bel_drew ?_) | (with_reducible refine bel_trans ?_ (by assumption)))); done)⟩
  rw [q0] at HF
  obtain ⟨hw1, k0, k1, k2, k3⟩ := hs1
  go_wp2_with fail
  set_option maxRecDepth 100000 in go_region_held3 (fun W => Below w.heap.size w W ∧ W.cell? ⟨w.heap.size, 0, none⟩ = some (.slice A0 (List.length x.1) c0) ∧ W.cell? ⟨w.heap.size, 1, none⟩ = some (.int .i64 x.2.1) ∧ W.cell? ⟨w.heap.size, 2, none⟩ = some (.int .i64 x.2.2.1) ∧ W.cell? ⟨w.heap.size, 3, none⟩ = some (.int .i64 x.2.2.2)) (first | (exact hz) | (exact HS.out _ (by (repeat' (first | (with_reducible exact Below.refl _ _) | (with_reducible assumption) | (with_reducible refine bel_set ?_ (by (try dsimp only); omega) _) | (with_reducible refine bel_alloc ?_ _) | (with_reducible refine bel_drewN ?_ _) | (with_reducible refine bel_drew ?_) | (with_reducible refine bel_trans ?_ (by assumption)))); done)))
    (first
      | (go_at_call 84; (with_reducible refine (C_spec_AppendName _ _ [] _ x.1 (rd_empty _ _) (Ty.rd_below (by (repeat' (first | (with_reducible exact Below.refl _ _) | (with_reducible assumption) | (with_reducible refine bel_set ?_ (by (try dsimp only); omega) _) | (with_reducible refine bel_alloc ?_ _) | (with_reducible refine bel_drewN ?_ _) | (with_reducible refine bel_drew ?_) | (with_reducible refine bel_trans ?_ (by assumption)))); done) (Ty.rd_below hvb g0)) (by simp)).mono ?_); rintro e wa ⟨va, rfl, hra, hba⟩; have HBa := Lib.hid (show Below WB.heap.size WB wa from (by (repeat' (first | (with_reducible exact Below.refl _ _) | (with_reducible assumption) | (with_reducible refine bel_set ?_ (by (try dsimp only); omega) _) | (with_reducible refine bel_alloc ?_ _) | (with_reducible refine bel_drewN ?_ _) | (with_reducible refine bel_drew ?_) | (with_reducible refine bel_trans ?_ (by assumption)))); done)); have HRa := Lib.hid (hra.mono (base' := WB.heap.size) (Below.size (B := WB.heap.size) (w := WB) (by (repeat' (first | (with_reducible exact Below.refl _ _) | (with_reducible assumption) | (with_reducible refine bel_set ?_ (by (try dsimp only); omega) _) | (with_reducible refine bel_alloc ?_ _) | (with_reducible refine bel_drewN ?_ _) | (with_reducible refine bel_drew ?_) | (with_reducible refine bel_trans ?_ (by assumption)))); done))); clear hra)
      | (go_at_call 85; (with_reducible refine (C_spec_EncodeInts _ _ [x.2.1, x.2.2.1, x.2.2.2] (by first | (refine rd_litI3' (w := w1) (te := 3) ?_ b1 b2 b3 ?_; (focus (first | rfl | (symm; apply World.size_alloc) | fail)); ((repeat' (first | (with_reducible exact Below.refl _ _) | (with_reducible assumption) | (with_reducible refine bel_set ?_ (by (try dsimp only); omega) _) | (with_reducible refine bel_alloc ?_ _) | (with_reducible refine bel_drewN ?_ _) | (with_reducible refine bel_drew ?_) | (with_reducible refine bel_trans ?_ (by assumption)))); done)) | (refine rd_litI3' (w := wa) (te := 3) ?_ b1 b2 b3 ?_; (focus (first | rfl | (symm; apply World.size_alloc) | fail)); ((repeat' (first | (with_reducible exact Below.refl _ _) | (with_reducible assumption) | (with_reducible refine bel_set ?_ (by (try dsimp only); omega) _) | (with_reducible refine bel_alloc ?_ _) | (with_reducible refine bel_drewN ?_ _) | (with_reducible refine bel_drew ?_) | (with_reducible refine bel_trans ?_ (by assumption)))); done)) | (refine rd_litI3' (w := (w1.alloc (.cells #[] 5))) (te := 3) ?_ b1 b2 b3 ?_; (focus (first | rfl | (symm; apply World.size_alloc) | fail)); ((repeat' (first | (with_reducible exact Below.refl _ _) | (with_reducible assumption) | (with_reducible refine bel_set ?_ (by (try dsimp only); omega) _) | (with_reducible refine bel_alloc ?_ _) | (with_reducible refine bel_drewN ?_ _) | (with_reducible refine bel_drew ?_) | (with_reducible refine bel_trans ?_ (by assumption)))); done)) | fail) (by simp)).mono ?_); rintro e we ⟨ve, rfl, hre, hbe⟩; have HBe := Lib.hid (show Below WB.heap.size WB we from (by (repeat' (first | (with_reducible exact Below.refl _ _) | (with_reducible assumption) | (with_reducible refine bel_set ?_ (by (try dsimp only); omega) _) | (with_reducible refine bel_alloc ?_ _) | (with_reducible refine bel_drewN ?_ _) | (with_reducible refine bel_drew ?_) | (with_reducible refine bel_trans ?_ (by assumption)))); done)); have HRe := Lib.hid (hre.mono (base' := WB.heap.size) (Below.size (B := WB.heap.size) (w := WB) (by (repeat' (first | (with_reducible exact Below.refl _ _) | (with_reducible assumption) | (with_reducible refine bel_set ?_ (by (try dsimp only); omega) _) | (with_reducible refine bel_alloc ?_ _) | (with_reducible refine bel_drewN ?_ _) | (with_reducible refine bel_drew ?_) | (with_reducible refine bel_trans ?_ (by assumption)))); done))); clear hre)
      | ((refine step_append_row (by rfl) _ _ 54 (by rfl) flatB WB.heap.size 5 infoB rfl Try.underlying54 _ _ (f_AppendName [] x.1) (f_EncodeInts [x.2.1, x.2.2.1, x.2.2.2]) (by rfl) (by rfl) (HRa.out.below (by (repeat' (first | (with_reducible exact Below.refl _ _) | (with_reducible assumption) | (with_reducible refine bel_set ?_ (by (try dsimp only); omega) _) | (with_reducible refine bel_alloc ?_ _) | (with_reducible refine bel_drewN ?_ _) | (with_reducible refine bel_drew ?_) | (with_reducible refine bel_trans ?_ (by assumption)))); done)) (Ty.rd_below (by (repeat' (first | (with_reducible exact Below.refl _ _) | (with_reducible assumption) | (with_reducible refine bel_set ?_ (by (try dsimp only); omega) _) | (with_reducible refine bel_alloc ?_ _) | (with_reducible refine bel_drewN ?_ _) | (with_reducible refine bel_drew ?_) | (with_reducible refine bel_trans ?_ (by assumption)))); done) (HRe.out.rd HBe.out.size)) (by have := HLA.out; omega) (by have := HLA.out; unfold maxLen; omega) (Below.size (B := WB.heap.size) (w := WB) (by (repeat' (first | (with_reducible exact Below.refl _ _) | (with_reducible assumption) | (with_reducible refine bel_set ?_ (by (try dsimp only); omega) _) | (with_reducible refine bel_alloc ?_ _) | (with_reducible refine bel_drewN ?_ _) | (with_reducible refine bel_drew ?_) | (with_reducible refine bel_trans ?_ (by assumption)))); done)) ?_); intro v' w' hr' hg'; have hne : some w.heap.size ≠ va.ownBlock := fun e => (by have := (HRa.out.block _ e.symm).1; omega); have hz : Below w.heap.size w w' ∧ w'.cell? ⟨w.heap.size, 0, none⟩ = some (.slice A0 (List.length x.1) c0) ∧ w'.cell? ⟨w.heap.size, 1, none⟩ = some (.int .i64 x.2.1) ∧ w'.cell? ⟨w.heap.size, 2, none⟩ = some (.int .i64 x.2.2.1) ∧ w'.cell? ⟨w.heap.size, 3, none⟩ = some (.int .i64 x.2.2.2) := ⟨bel_grown (B := w.heap.size) (by (repeat' (first | (with_reducible exact Below.refl _ _) | (with_reducible assumption) | (with_reducible refine bel_set ?_ (by (try dsimp only); omega) _) | (with_reducible refine bel_alloc ?_ _) | (with_reducible refine bel_drewN ?_ _) | (with_reducible refine bel_drew ?_) | (with_reducible refine bel_trans ?_ (by assumption)))); done) (Below.size (B := w.heap.size) (w := w) (by (repeat' (first | (with_reducible exact Below.refl _ _) | (with_reducible assumption) | (with_reducible refine bel_set ?_ (by (try dsimp only); omega) _) | (with_reducible refine bel_alloc ?_ _) | (with_reducible refine bel_drewN ?_ _) | (with_reducible refine bel_drew ?_) | (with_reducible refine bel_trans ?_ (by assumption)))); done)) hg' (fun g hg => (by have := (HRa.out.block _ hg).1; omega)), hg'.cell (HS.out _ (by (repeat' (first | (with_reducible exact Below.refl _ _) | (with_reducible assumption) | (with_reducible refine bel_set ?_ (by (try dsimp only); omega) _) | (with_reducible refine bel_alloc ?_ _) | (with_reducible refine bel_drewN ?_ _) | (with_reducible refine bel_drew ?_) | (with_reducible refine bel_trans ?_ (by assumption)))); done)).2.1 hne, hg'.cell (HS.out _ (by (repeat' (first | (with_reducible exact Below.refl _ _) | (with_reducible assumption) | (with_reducible refine bel_set ?_ (by (try dsimp only); omega) _) | (with_reducible refine bel_alloc ?_ _) | (with_reducible refine bel_drewN ?_ _) | (with_reducible refine bel_drew ?_) | (with_reducible refine bel_trans ?_ (by assumption)))); done)).2.2.1 hne, hg'.cell (HS.out _ (by (repeat' (first | (with_reducible exact Below.refl _ _) | (with_reducible assumption) | (with_reducible refine bel_set ?_ (by (try dsimp only); omega) _) | (with_reducible refine bel_alloc ?_ _) | (with_reducible refine bel_drewN ?_ _) | (with_reducible refine bel_drew ?_) | (with_reducible refine bel_trans ?_ (by assumption)))); done)).2.2.2.1 hne, hg'.cell (HS.out _ (by (repeat' (first | (with_reducible exact Below.refl _ _) | (with_reducible assumption) | (with_reducible refine bel_set ?_ (by (try dsimp only); omega) _) | (with_reducible refine bel_alloc ?_ _) | (with_reducible refine bel_drewN ?_ _) | (with_reducible refine bel_drew ?_) | (with_reducible refine bel_trans ?_ (by assumption)))); done)).2.2.2.2 hne⟩)
      | fail)
  all_goals (have HR' := Lib.hid hr')
  all_goals (clear hr')
  all_goals go_wp2
  all_goals go_ret
  all_goals rw [HF.out]
  all_goals exact RetRow.sl ⟨_, rfl, HR'.out.mono (by omega), hz.1⟩
end Go.Proofs.Ytmhchmokjconoaa
