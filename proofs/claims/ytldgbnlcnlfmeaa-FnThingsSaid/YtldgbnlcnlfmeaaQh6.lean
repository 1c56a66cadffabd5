/- Texts of this claim, merged by a program: Sig Ver. -/
import Derived.Test.YtldgbnlcnlfmeaaQhP
import Derived.Test.YtldgbnlcnlfmeaaQh5
import Derived.Test.YtldgbnlcnlfmeaaQh1
import Derived.Deep.QuietTactic
import Derived.BigQuiet
namespace Go.Proofs.Ytldgbnlcnlfmeaa
open Go.RowKit
set_option linter.unusedVariables false
set_option linter.unusedSimpArgs false
theorem appendName_len (b : List UInt8) (n : List (List UInt8)) : (f_AppendName b n).length ≤ b.length + 90 := by
 unfold f_AppendName
 split
 ·rename_i h
  have hv := validName_parts h
  have h1 := foldBytes_len n (f_AppendVarint b n.length) hv.2
  have h2 := appendVarint_len b n.length
  have h3 := hv.1
  unfold nameBytes
  omega
 ·omega
theorem bti_len (x : List UInt8) : (bti x).length = x.length + 1 := pre_len _ _
def f_SignedPortion (x : tData.D) : List Int := [bti (f_AppendName [] x.1), bti x.2.1, bti (f_AppendName [] x.2.2.1)].flatten ++ [x.2.2.2.1]
theorem content_lenB {x : tData.D} {B : Nat} (s0 : Ty.bulk tData x ≤ B) : x.2.1.length ≤ B := by
 have h1 : Ty.bulk (.sl .str) x.1 + (Ty.bulk (.sl .byte) x.2.1 + (Ty.bulk (.sl .str) x.2.2.1 + (0 + 0))) ≤ B := s0
 exact Ty.bulk_len (e := .byte) (x := x.2.1) (n := B) b_29
theorem content_len {x : tData.D} (s0 : Ty.bulk tData x ≤ 1048576) : x.2.1.length ≤ 1048576 := by
 have h1 : Ty.bulk (.sl .str) x.1 + (Ty.bulk (.sl .byte) x.2.1 + (Ty.bulk (.sl .str) x.2.2.1 + (0 + 0))) ≤ 1048576 := s0
 exact Ty.bulk_len (e := .byte) (x := x.2.1) (n := 1048576) b_29
theorem signed_len {x : tData.D} (s0 : Ty.bulk tData x ≤ 1048576) : (f_SignedPortion x).length ≤ 1050000 := by
 have h1 := content_len s0
 have h2 := appendName_len [] x.1
 have h3 := appendName_len [] x.2.2.1
 have h4 : (f_SignedPortion x).length = (bti (f_AppendName [] x.1)).length + ((bti x.2.1).length + (bti (f_AppendName [] x.2.2.1)).length) + 1 := by
  unfold f_SignedPortion; simp; omega
 rw [h4, bti_len, bti_len, bti_len]
 simp only [List.length_nil] at h2 h3
 omega
theorem signed_lenB {x : tData.D} (s0 : Ty.bulk tData x ≤ 4000000) : (f_SignedPortion x).length ≤ 4010000 := by
 have h1 := content_lenB s0
 have h2 := appendName_len [] x.1
 have h3 := appendName_len [] x.2.2.1
 have h4 : (f_SignedPortion x).length = (bti (f_AppendName [] x.1)).length + ((bti x.2.1).length + (bti (f_AppendName [] x.2.2.1)).length) + 1 := by
  unfold f_SignedPortion; simp; omega
 rw [h4, bti_len, bti_len, bti_len]
 simp only [List.length_nil] at h2 h3
 omega
theorem rd_lit3' {w W : World} {te : TypeId} {e : Ty} (hz : e.sz = 1) {g : Nat} {a b c : Value} {x y z : e.D} (hg : g = w.heap.size) (h1 : e.rd w [a] x) (h2 : e.rd w [b] y) (h3 : e.rd w [c] z) (hb : Below (w.alloc (.cells #[a, b, c] te)).heap.size (w.alloc (.cells #[a, b, c] te)) W) :
  (Ty.sl e).rd W [.slice (some ⟨g, 0, none⟩) 3 3] [x, y, z] := by
 subst hg; exact Ty.rd_below hb (rd_lit3 w te hz a b c x y z h1 h2 h3)
theorem lit1_cell {w W : World} {te : TypeId} {g : Nat} {n : Int} (hg : g = w.heap.size) (hb : Below (w.alloc (.cells #[.int .i64 n] te)).heap.size (w.alloc (.cells #[.int .i64 n] te)) W) : W.cell? ⟨g, 0, none⟩ = some (.int .i64 n) := by
 subst hg; rw [hb.cell (p := ⟨w.heap.size, 0, none⟩) (by rw [World.size_alloc]; simp)]; exact cell_new w _ _ 0 rfl
theorem rd_cell1 {W : World} {g : Nat} {n : Int} (ho : -9223372036854775808 ≤ n ∧ n ≤ 9223372036854775807) (h : W.cell? ⟨g, 0, none⟩ = some (.int .i64 n)) : (Ty.sl .int).rd W [.slice (some ⟨g, 0, none⟩) 1 1] [n] := by
 refine ⟨_, 1, rfl, Nat.le_refl _, ⟨by unfold maxLen; omega, fun h => by cases h⟩, by simp, fun _ => ⟨g, 0, rfl, fun i hi => ?_⟩⟩
 obtain rfl : i = 0 := by simpa using hi
 refine ⟨[.int .i64 n], rfl, fun j hj => ?_, ⟨rfl, ho⟩⟩
 obtain rfl : j = 0 := by simp [Ty.sz] at hj; omega
 simpa using h
theorem rd_lit1' {w W : World} {te : TypeId} {g : Nat} {n : Int} (hg : g = w.heap.size) (ho : -9223372036854775808 ≤ n ∧ n ≤ 9223372036854775807) (hb : Below (w.alloc (.cells #[.int .i64 n] te)).heap.size (w.alloc (.cells #[.int .i64 n] te)) W) :
  (Ty.sl .int).rd W [.slice (some ⟨g, 0, none⟩) 1 1] [n] := by
 subst hg; exact Ty.rd_below hb ((Row.lit1 flatI w te n (okI ho.1 ho.2) (Nat.le_refl _)).rd b_22)
set_option maxHeartbeats 8000000 in
theorem C_impl_SignedPortionB (w : World) (cs : List Value) (x : tData.D) (h : tData.rd w cs x) (s0 : Ty.bulk tData x ≤ 4000000) :
  Calls Try.prog 63 #[.agg cs.toArray] w (RetRow flatI w 3 (f_SignedPortion x)) := by
 obtain ⟨A0, c0, A1, c1, A2, c2, rfl, g0, g1, g2, b3, b4⟩ := rd_Data h
 have kb0 : (w.alloc (.cells #[.slice A0 (List.length x.1) c0, .slice A1 (List.length x.2.1) c1, .slice A2 (List.length x.2.2.1) c2, .int .i64 x.2.2.2.1, .int .i64 x.2.2.2.2] 46)).cell? ⟨w.heap.size, 0, none⟩ = some (.slice A0 (List.length x.1) c0) := cell_new w _ _ 0 rfl
 have kb1 : (w.alloc (.cells #[.slice A0 (List.length x.1) c0, .slice A1 (List.length x.2.1) c1, .slice A2 (List.length x.2.2.1) c2, .int .i64 x.2.2.2.1, .int .i64 x.2.2.2.2] 46)).cell? ⟨w.heap.size, 1, none⟩ = some (.slice A1 (List.length x.2.1) c1) := cell_new w _ _ 1 rfl
 have kb2 : (w.alloc (.cells #[.slice A0 (List.length x.1) c0, .slice A1 (List.length x.2.1) c1, .slice A2 (List.length x.2.2.1) c2, .int .i64 x.2.2.2.1, .int .i64 x.2.2.2.2] 46)).cell? ⟨w.heap.size, 2, none⟩ = some (.slice A2 (List.length x.2.2.1) c2) := cell_new w _ _ 2 rfl
 have kb3 : (w.alloc (.cells #[.slice A0 (List.length x.1) c0, .slice A1 (List.length x.2.1) c1, .slice A2 (List.length x.2.2.1) c2, .int .i64 x.2.2.2.1, .int .i64 x.2.2.2.2] 46)).cell? ⟨w.heap.size, 3, none⟩ = some (.int .i64 x.2.2.2.1) := cell_new w _ _ 3 rfl
 have kb4 : (w.alloc (.cells #[.slice A0 (List.length x.1) c0, .slice A1 (List.length x.2.1) c1, .slice A2 (List.length x.2.2.1) c2, .int .i64 x.2.2.2.1, .int .i64 x.2.2.2.2] 46)).cell? ⟨w.heap.size, 4, none⟩ = some (.int .i64 x.2.2.2.2) := cell_new w _ _ 4 rfl
 have hvb : Below w.heap.size w (w.alloc (.cells #[.slice A0 (List.length x.1) c0, .slice A1 (List.length x.2.1) c1, .slice A2 (List.length x.2.2.1) c2, .int .i64 x.2.2.2.1, .int .i64 x.2.2.2.2] 46)) := b_5
 have hzb : w.heap.size < (w.alloc (.cells #[.slice A0 (List.length x.1) c0, .slice A1 (List.length x.2.1) c1, .slice A2 (List.length x.2.2.1) c2, .int .i64 x.2.2.2.1, .int .i64 x.2.2.2.2] 46)).heap.size := by rw [World.size_alloc]; omega
 have hcl := content_lenB s0
 have HL1 := Lib.hid (appendName_len [] x.1)
 have HL3 := Lib.hid (appendName_len [] x.2.2.1)
 have HSUM : Hid (([bti (f_AppendName [] x.1), bti x.2.1, bti (f_AppendName [] x.2.2.1)].map List.length).sum ≤ 1099000000000 ∧ 0 < ([bti (f_AppendName [] x.1), bti x.2.1, bti (f_AppendName [] x.2.2.1)].map List.length).sum) := by
  have h1 := HL1.out; have h3 := HL3.out
  simp only [List.map_cons, List.map_nil, List.sum_cons, List.sum_nil, bti_len, List.length_nil] at h1 h3 ⊢
  constructor <;> omega
 have HLF : Hid (([bti (f_AppendName [] x.1), bti x.2.1, bti (f_AppendName [] x.2.2.1)].flatten).length ≤ 1099000000000) := by
  have h1 := HSUM.out.1; rw [List.length_flatten]; exact h1
 have HF := Lib.hid (show f_SignedPortion x = [bti (f_AppendName [] x.1), bti x.2.1, bti (f_AppendName [] x.2.2.1)].flatten ++ [x.2.2.2.1] from rfl)
 go_enter Try.func63, Try.ntmps63
 go_wp2_with fail
 generalize w.alloc (.cells #[.slice A0 (List.length x.1) c0, .slice A1 (List.length x.2.1) c1, .slice A2 (List.length x.2.2.1) c2, .int .i64 x.2.2.2.1, .int .i64 x.2.2.2.2] 46) = WB at kb0 kb1 kb2 kb3 kb4 hvb hzb ⊢
 have HS : Hid (∀ W, Below WB.heap.size WB W → Below w.heap.size w W ∧ W.cell? ⟨w.heap.size, 0, none⟩ = some (.slice A0 (List.length x.1) c0) ∧ W.cell? ⟨w.heap.size, 1, none⟩ = some (.slice A1 (List.length x.2.1) c1) ∧ W.cell? ⟨w.heap.size, 2, none⟩ = some (.slice A2 (List.length x.2.2.1) c2) ∧ W.cell? ⟨w.heap.size, 3, none⟩ = some (.int .i64 x.2.2.2.1) ∧ W.cell? ⟨w.heap.size, 4, none⟩ = some (.int .i64 x.2.2.2.2)) := fun W hW => ⟨bel_trans hvb hW, (hW.cell (p := ⟨w.heap.size, 0, none⟩) hzb).trans kb0, (hW.cell (p := ⟨w.heap.size, 1, none⟩) hzb).trans kb1, (hW.cell (p := ⟨w.heap.size, 2, none⟩) hzb).trans kb2, (hW.cell (p := ⟨w.heap.size, 3, none⟩) hzb).trans kb3, (hW.cell (p := ⟨w.heap.size, 4, none⟩) hzb).trans kb4⟩
 clear kb0 kb1 kb2 kb3 kb4
 set_option maxRecDepth 100000 in go_region_held3 (fun W => Below w.heap.size w W ∧ W.cell? ⟨w.heap.size, 0, none⟩ = some (.slice A0 (List.length x.1) c0) ∧ W.cell? ⟨w.heap.size, 1, none⟩ = some (.slice A1 (List.length x.2.1) c1) ∧ W.cell? ⟨w.heap.size, 2, none⟩ = some (.slice A2 (List.length x.2.2.1) c2) ∧ W.cell? ⟨w.heap.size, 3, none⟩ = some (.int .i64 x.2.2.2.1) ∧ W.cell? ⟨w.heap.size, 4, none⟩ = some (.int .i64 x.2.2.2.2)) (first | (exact hz) | (exact HS.out _ b_2))
  (first
   | (go_at_call 114; (with_reducible refine (C_impl_AppendName _ _ [] _ x.1 (rd_empty _ _) (Ty.rd_below b_2 (Ty.rd_below hvb g0)) b_30).mono ?_); rintro e wa ⟨va, rfl, hra, hba⟩; have HBa := Lib.hid (show Below WB.heap.size WB wa from b_2); have HRa := Lib.hid (hra.mono (base' := WB.heap.size) (Below.size (B := WB.heap.size) (w := WB) b_2)); clear hra)
   | (go_at_call 114; (with_reducible refine (C_impl_AppendName _ _ [] _ x.2.2.1 (rd_empty _ _) (Ty.rd_below b_2 (Ty.rd_below hvb g2)) b_30).mono ?_); rintro e wc ⟨vc, rfl, hrc, hbc⟩; have HBc := Lib.hid (show Below WB.heap.size WB wc from b_2); have HRc := Lib.hid (hrc.mono (base' := WB.heap.size) (Below.size (B := WB.heap.size) (w := WB) b_2)); clear hrc)
   | (go_at_call 135; (with_reducible refine (C_impl_BytesToInts _ _ (f_AppendName [] x.1) (Ty.rd_below b_2 (HRa.out.rd HBa.out.size)) (by have := HL1.out; simp only [List.length_nil] at this; omega)).mono ?_); rintro e wd ⟨vd, rfl, hrd, hbd⟩; obtain ⟨Ad, cd, rfl⟩ := hrd.form; have HBd := Lib.hid (show Below WB.heap.size WB wd from b_2); have HRd := Lib.hid (hrd.mono (base' := WB.heap.size) (Below.size (B := WB.heap.size) (w := WB) b_2)); clear hrd)
   | (go_at_call 135; (with_reducible refine (C_impl_BytesToInts _ _ x.2.1 (Ty.rd_below b_2 (Ty.rd_below hvb g1)) b_29).mono ?_); rintro e we ⟨ve, rfl, hre, hbe⟩; obtain ⟨Ae, ce, rfl⟩ := hre.form; have HBe := Lib.hid (show Below WB.heap.size WB we from b_2); have HRe := Lib.hid (hre.mono (base' := WB.heap.size) (Below.size (B := WB.heap.size) (w := WB) b_2)); clear hre)
   | (go_at_call 135; (with_reducible refine (C_impl_BytesToInts _ _ (f_AppendName [] x.2.2.1) (Ty.rd_below b_2 (HRc.out.rd HBc.out.size)) (by have := HL3.out; simp only [List.length_nil] at this; omega)).mono ?_); rintro e wf ⟨vf, rfl, hrf, hbf⟩; obtain ⟨Af, cf, rfl⟩ := hrf.form; have HBf := Lib.hid (show Below WB.heap.size WB wf from b_2); have HRf := Lib.hid (hrf.mono (base' := WB.heap.size) (Below.size (B := WB.heap.size) (w := WB) b_2)); clear hrf)
   | (go_at_call 134; (with_reducible refine (C_slices_Concat_int _ _ [bti (f_AppendName [] x.1), bti x.2.1, bti (f_AppendName [] x.2.2.1)] (by first | (refine rd_lit3' (w := wf) (te := 92) (e := .sl .int) rfl ?_ (Ty.rd_below b_2 (HRd.out.rd HBd.out.size)) (Ty.rd_below b_2 (HRe.out.rd HBe.out.size)) (Ty.rd_below b_2 (HRf.out.rd HBf.out.size)) ?_; (focus (first | rfl | (simp only [World.size_alloc, World.size_drew]; done))); ((repeat' (first | (with_reducible exact Below.refl _ _) | (with_reducible assumption) | (with_reducible refine bel_set ?_ b_24 _) | (with_reducible refine bel_alloc ?_ _) | (with_reducible refine bel_drewN ?_ _) | (with_reducible refine bel_drew ?_) | (with_reducible refine bel_trans ?_ b_26))); done)) | (refine rd_lit3' (w := wf.alloc (.cells #[.int .i64 x.2.2.2.1] 3)) (te := 92) (e := .sl .int) rfl ?_ (Ty.rd_below b_2 (HRd.out.rd HBd.out.size)) (Ty.rd_below b_2 (HRe.out.rd HBe.out.size)) (Ty.rd_below b_2 (HRf.out.rd HBf.out.size)) ?_; (focus (first | rfl | (simp only [World.size_alloc, World.size_drew]; done))); ((repeat' (first | (with_reducible exact Below.refl _ _) | (with_reducible assumption) | (with_reducible refine bel_set ?_ b_24 _) | (with_reducible refine bel_alloc ?_ _) | (with_reducible refine bel_drewN ?_ _) | (with_reducible refine bel_drew ?_) | (with_reducible refine bel_trans ?_ b_26))); done)) | fail) HSUM.out.2 (Nat.le_trans HSUM.out.1 b_28)).mono ?_); rintro e wg ⟨vg, rfl, hrg, hbg⟩; have HBg := Lib.hid (show Below WB.heap.size WB wg from b_2); have HRg := Lib.hid (hrg.mono (base' := WB.heap.size) (Below.size (B := WB.heap.size) (w := WB) b_2)); clear hrg)
   | ((refine step_append_row b_31 _ _ 92 b_31 flatI WB.heap.size 3 infoI rfl Try.underlying92 _ _ ([bti (f_AppendName [] x.1), bti x.2.1, bti (f_AppendName [] x.2.2.1)].flatten) ([x.2.2.2.1]) b_31 b_31 (HRg.out.below b_2) (by first | (refine rd_lit1' (w := WB) (te := 3) (n := x.2.2.2.1) ?_ b3 ?_; (focus (first | rfl | (simp only [World.size_alloc, World.size_drew]; done))); ((repeat' (first | (with_reducible exact Below.refl _ _) | (with_reducible assumption) | (with_reducible refine bel_set ?_ b_24 _) | (with_reducible refine bel_alloc ?_ _) | (with_reducible refine bel_drewN ?_ _) | (with_reducible refine bel_drew ?_) | (with_reducible refine bel_trans ?_ b_26))); done)) | (refine rd_lit1' (w := WB.drew) (te := 3) (n := x.2.2.2.1) ?_ b3 ?_; (focus (first | rfl | (simp only [World.size_alloc, World.size_drew]; done))); ((repeat' (first | (with_reducible exact Below.refl _ _) | (with_reducible assumption) | (with_reducible refine bel_set ?_ b_24 _) | (with_reducible refine bel_alloc ?_ _) | (with_reducible refine bel_drewN ?_ _) | (with_reducible refine bel_drew ?_) | (with_reducible refine bel_trans ?_ b_26))); done)) | (refine rd_lit1' (w := wa) (te := 3) (n := x.2.2.2.1) ?_ b3 ?_; (focus (first | rfl | (simp only [World.size_alloc, World.size_drew]; done))); ((repeat' (first | (with_reducible exact Below.refl _ _) | (with_reducible assumption) | (with_reducible refine bel_set ?_ b_24 _) | (with_reducible refine bel_alloc ?_ _) | (with_reducible refine bel_drewN ?_ _) | (with_reducible refine bel_drew ?_) | (with_reducible refine bel_trans ?_ b_26))); done)) | (refine rd_lit1' (w := wd) (te := 3) (n := x.2.2.2.1) ?_ b3 ?_; (focus (first | rfl | (simp only [World.size_alloc, World.size_drew]; done))); ((repeat' (first | (with_reducible exact Below.refl _ _) | (with_reducible assumption) | (with_reducible refine bel_set ?_ b_24 _) | (with_reducible refine bel_alloc ?_ _) | (with_reducible refine bel_drewN ?_ _) | (with_reducible refine bel_drew ?_) | (with_reducible refine bel_trans ?_ b_26))); done)) | (refine rd_lit1' (w := we) (te := 3) (n := x.2.2.2.1) ?_ b3 ?_; (focus (first | rfl | (simp only [World.size_alloc, World.size_drew]; done))); ((repeat' (first | (with_reducible exact Below.refl _ _) | (with_reducible assumption) | (with_reducible refine bel_set ?_ b_24 _) | (with_reducible refine bel_alloc ?_ _) | (with_reducible refine bel_drewN ?_ _) | (with_reducible refine bel_drew ?_) | (with_reducible refine bel_trans ?_ b_26))); done)) | (refine rd_lit1' (w := wc) (te := 3) (n := x.2.2.2.1) ?_ b3 ?_; (focus (first | rfl | (simp only [World.size_alloc, World.size_drew]; done))); ((repeat' (first | (with_reducible exact Below.refl _ _) | (with_reducible assumption) | (with_reducible refine bel_set ?_ b_24 _) | (with_reducible refine bel_alloc ?_ _) | (with_reducible refine bel_drewN ?_ _) | (with_reducible refine bel_drew ?_) | (with_reducible refine bel_trans ?_ b_26))); done)) | (refine rd_lit1' (w := wf) (te := 3) (n := x.2.2.2.1) ?_ b3 ?_; (focus (first | rfl | (simp only [World.size_alloc, World.size_drew]; done))); ((repeat' (first | (with_reducible exact Below.refl _ _) | (with_reducible assumption) | (with_reducible refine bel_set ?_ b_24 _) | (with_reducible refine bel_alloc ?_ _) | (with_reducible refine bel_drewN ?_ _) | (with_reducible refine bel_drew ?_) | (with_reducible refine bel_trans ?_ b_26))); done)) | (refine rd_lit1' (w := wf.alloc (.cells #[.slice Ad (List.length (bti (f_AppendName [] x.1))) cd, .slice Ae (List.length (bti x.2.1)) ce, .slice Af (List.length (bti (f_AppendName [] x.2.2.1))) cf] 92)) (te := 3) (n := x.2.2.2.1) ?_ b3 ?_; (focus (first | rfl | (simp only [World.size_alloc, World.size_drew]; done))); ((repeat' (first | (with_reducible exact Below.refl _ _) | (with_reducible assumption) | (with_reducible refine bel_set ?_ b_24 _) | (with_reducible refine bel_alloc ?_ _) | (with_reducible refine bel_drewN ?_ _) | (with_reducible refine bel_drew ?_) | (with_reducible refine bel_trans ?_ b_26))); done)) | (refine rd_lit1' (w := wg) (te := 3) (n := x.2.2.2.1) ?_ b3 ?_; (focus (first | rfl | (simp only [World.size_alloc, World.size_drew]; done))); ((repeat' (first | (with_reducible exact Below.refl _ _) | (with_reducible assumption) | (with_reducible refine bel_set ?_ b_24 _) | (with_reducible refine bel_alloc ?_ _) | (with_reducible refine bel_drewN ?_ _) | (with_reducible refine bel_drew ?_) | (with_reducible refine bel_trans ?_ b_26))); done)) | fail) (by have := HLF.out; rw [List.length_singleton]; omega) (by have := HLF.out; rw [List.length_singleton]; unfold maxLen; omega) (Below.size (B := WB.heap.size) (w := WB) b_2) ?_); intro v' w' hr' hg'; have hne : some w.heap.size ≠ vg.ownBlock := fun e => (by have := (HRg.out.block _ e.symm).1; omega); have hz : Below w.heap.size w w' ∧ w'.cell? ⟨w.heap.size, 0, none⟩ = some (.slice A0 (List.length x.1) c0) ∧ w'.cell? ⟨w.heap.size, 1, none⟩ = some (.slice A1 (List.length x.2.1) c1) ∧ w'.cell? ⟨w.heap.size, 2, none⟩ = some (.slice A2 (List.length x.2.2.1) c2) ∧ w'.cell? ⟨w.heap.size, 3, none⟩ = some (.int .i64 x.2.2.2.1) ∧ w'.cell? ⟨w.heap.size, 4, none⟩ = some (.int .i64 x.2.2.2.2) := ⟨bel_grown (B := w.heap.size) b_2 (Below.size (B := w.heap.size) (w := w) b_2) hg' (fun g hg => (by have := (HRg.out.block _ hg).1; omega)), hg'.cell (HS.out _ b_2).2.1 hne, hg'.cell (HS.out _ b_2).2.2.1 hne, hg'.cell (HS.out _ b_2).2.2.2.1 hne, hg'.cell (HS.out _ b_2).2.2.2.2.1 hne, hg'.cell (HS.out _ b_2).2.2.2.2.2 hne⟩)
   | fail)
 all_goals (have HR' := Lib.hid hr')
 all_goals (clear hr')
 all_goals go_wp2
 all_goals go_ret
 all_goals exact ⟨_, rfl, by rw [HF.out]; exact HR'.out.mono b_29, hz.1⟩
theorem C_impl_SignedPortion (w : World) (cs : List Value) (x : tData.D) (h : tData.rd w cs x) (s0 : Ty.bulk tData x ≤ 1048576) :
  Calls Try.prog 63 #[.agg cs.toArray] w (RetRow flatI w 3 (f_SignedPortion x)) := C_impl_SignedPortionB w cs x h (Nat.le_trans s0 b_28)
set_option maxHeartbeats 8000000 in
theorem C_spec_SignedPortionB (w : World) (cs : List Value) (x : tData.D) (h : tData.rd w cs x) (s0 : Ty.bulk tData x ≤ 4000000) :
  Calls Try.prog 64 #[.agg cs.toArray] w (RetRow flatI w 3 (f_SignedPortion x)) := by
 obtain ⟨A0, c0, A1, c1, A2, c2, rfl, g0, g1, g2, b3, b4⟩ := rd_Data h
 have kb0 : (w.alloc (.cells #[.slice A0 (List.length x.1) c0, .slice A1 (List.length x.2.1) c1, .slice A2 (List.length x.2.2.1) c2, .int .i64 x.2.2.2.1, .int .i64 x.2.2.2.2] 46)).cell? ⟨w.heap.size, 0, none⟩ = some (.slice A0 (List.length x.1) c0) := cell_new w _ _ 0 rfl
 have kb1 : (w.alloc (.cells #[.slice A0 (List.length x.1) c0, .slice A1 (List.length x.2.1) c1, .slice A2 (List.length x.2.2.1) c2, .int .i64 x.2.2.2.1, .int .i64 x.2.2.2.2] 46)).cell? ⟨w.heap.size, 1, none⟩ = some (.slice A1 (List.length x.2.1) c1) := cell_new w _ _ 1 rfl
 have kb2 : (w.alloc (.cells #[.slice A0 (List.length x.1) c0, .slice A1 (List.length x.2.1) c1, .slice A2 (List.length x.2.2.1) c2, .int .i64 x.2.2.2.1, .int .i64 x.2.2.2.2] 46)).cell? ⟨w.heap.size, 2, none⟩ = some (.slice A2 (List.length x.2.2.1) c2) := cell_new w _ _ 2 rfl
 have kb3 : (w.alloc (.cells #[.slice A0 (List.length x.1) c0, .slice A1 (List.length x.2.1) c1, .slice A2 (List.length x.2.2.1) c2, .int .i64 x.2.2.2.1, .int .i64 x.2.2.2.2] 46)).cell? ⟨w.heap.size, 3, none⟩ = some (.int .i64 x.2.2.2.1) := cell_new w _ _ 3 rfl
 have kb4 : (w.alloc (.cells #[.slice A0 (List.length x.1) c0, .slice A1 (List.length x.2.1) c1, .slice A2 (List.length x.2.2.1) c2, .int .i64 x.2.2.2.1, .int .i64 x.2.2.2.2] 46)).cell? ⟨w.heap.size, 4, none⟩ = some (.int .i64 x.2.2.2.2) := cell_new w _ _ 4 rfl
 have hvb : Below w.heap.size w (w.alloc (.cells #[.slice A0 (List.length x.1) c0, .slice A1 (List.length x.2.1) c1, .slice A2 (List.length x.2.2.1) c2, .int .i64 x.2.2.2.1, .int .i64 x.2.2.2.2] 46)) := b_5
 have hzb : w.heap.size < (w.alloc (.cells #[.slice A0 (List.length x.1) c0, .slice A1 (List.length x.2.1) c1, .slice A2 (List.length x.2.2.1) c2, .int .i64 x.2.2.2.1, .int .i64 x.2.2.2.2] 46)).heap.size := by rw [World.size_alloc]; omega
 have hcl := content_lenB s0
 have HL1 := Lib.hid (appendName_len [] x.1)
 have HL3 := Lib.hid (appendName_len [] x.2.2.1)
 have HLA : Hid ((bti (f_AppendName [] x.1)).length + (bti x.2.1).length ≤ 4050000) := by
  have h1 := HL1.out
  simp only [List.length_nil] at h1
  show _ ≤ _
  rw [bti_len, bti_len]; omega
 have HLB : Hid ((bti (f_AppendName [] x.1) ++ bti x.2.1).length + (bti (f_AppendName [] x.2.2.1)).length ≤ 4060000) := by
  have h1 := HLA.out; have h3 := HL3.out
  simp only [List.length_nil] at h3
  show _ ≤ _
  rw [List.length_append, bti_len (f_AppendName [] x.2.2.1)]; omega
 have HF := Lib.hid (show f_SignedPortion x = ((bti (f_AppendName [] x.1) ++ bti x.2.1) ++ bti (f_AppendName [] x.2.2.1)) ++ [x.2.2.2.1] from by unfold f_SignedPortion; simp)
 go_enter Try.func64, Try.ntmps64
 go_wp2_with fail
 generalize w.alloc (.cells #[.slice A0 (List.length x.1) c0, .slice A1 (List.length x.2.1) c1, .slice A2 (List.length x.2.2.1) c2, .int .i64 x.2.2.2.1, .int .i64 x.2.2.2.2] 46) = WB at kb0 kb1 kb2 kb3 kb4 hvb hzb ⊢
 have HS : Hid (∀ W, Below WB.heap.size WB W → Below w.heap.size w W ∧ W.cell? ⟨w.heap.size, 0, none⟩ = some (.slice A0 (List.length x.1) c0) ∧ W.cell? ⟨w.heap.size, 1, none⟩ = some (.slice A1 (List.length x.2.1) c1) ∧ W.cell? ⟨w.heap.size, 2, none⟩ = some (.slice A2 (List.length x.2.2.1) c2) ∧ W.cell? ⟨w.heap.size, 3, none⟩ = some (.int .i64 x.2.2.2.1) ∧ W.cell? ⟨w.heap.size, 4, none⟩ = some (.int .i64 x.2.2.2.2)) := fun W hW => ⟨bel_trans hvb hW, (hW.cell (p := ⟨w.heap.size, 0, none⟩) hzb).trans kb0, (hW.cell (p := ⟨w.heap.size, 1, none⟩) hzb).trans kb1, (hW.cell (p := ⟨w.heap.size, 2, none⟩) hzb).trans kb2, (hW.cell (p := ⟨w.heap.size, 3, none⟩) hzb).trans kb3, (hW.cell (p := ⟨w.heap.size, 4, none⟩) hzb).trans kb4⟩
 clear kb0 kb1 kb2 kb3 kb4
 set_option maxRecDepth 100000 in go_region_held3 (fun W => Below w.heap.size w W ∧ W.cell? ⟨w.heap.size, 0, none⟩ = some (.slice A0 (List.length x.1) c0) ∧ W.cell? ⟨w.heap.size, 1, none⟩ = some (.slice A1 (List.length x.2.1) c1) ∧ W.cell? ⟨w.heap.size, 2, none⟩ = some (.slice A2 (List.length x.2.2.1) c2) ∧ W.cell? ⟨w.heap.size, 3, none⟩ = some (.int .i64 x.2.2.2.1) ∧ W.cell? ⟨w.heap.size, 4, none⟩ = some (.int .i64 x.2.2.2.2)) (first | (exact hz) | (exact HS.out _ b_2))
  (first
   | (go_at_call 128; (with_reducible refine (C_spec_AppendName _ _ [] _ x.1 (rd_empty _ _) (Ty.rd_below b_2 (Ty.rd_below hvb g0)) b_30).mono ?_); rintro e wa ⟨va, rfl, hra, hba⟩; have HBa := Lib.hid (show Below WB.heap.size WB wa from b_2); have HRa := Lib.hid (hra.mono (base' := WB.heap.size) (Below.size (B := WB.heap.size) (w := WB) b_2)); clear hra)
   | (go_at_call 136; (with_reducible refine (C_spec_BytesToInts _ _ (f_AppendName [] x.1) (Ty.rd_below b_2 (HRa.out.rd HBa.out.size)) (by have := HL1.out; simp only [List.length_nil] at this; omega)).mono ?_); rintro e wd ⟨vd, rfl, hrd, hbd⟩; have HBd := Lib.hid (show Below WB.heap.size WB wd from b_2); have HRd := Lib.hid (hrd.mono (base' := WB.heap.size) (Below.size (B := WB.heap.size) (w := WB) b_2)); clear hrd)
   | (go_at_call 136; (with_reducible refine (C_spec_BytesToInts _ _ x.2.1 (Ty.rd_below b_2 (Ty.rd_below hvb g1)) b_29).mono ?_); rintro e we ⟨ve, rfl, hre, hbe⟩; have HBe := Lib.hid (show Below WB.heap.size WB we from b_2); have HRe := Lib.hid (hre.mono (base' := WB.heap.size) (Below.size (B := WB.heap.size) (w := WB) b_2)); clear hre)
   | ((refine step_append_row b_31 _ _ 92 b_31 flatI WB.heap.size 3 infoI rfl Try.underlying92 _ _ (bti (f_AppendName [] x.1)) (bti x.2.1) b_31 b_31 (HRd.out.below b_2) (Ty.rd_below b_2 (HRe.out.rd HBe.out.size)) (by have := HLA.out; omega) (by have := HLA.out; unfold maxLen; omega) (Below.size (B := WB.heap.size) (w := WB) b_2) ?_); intro vt wt hrt hg'; have hne : some w.heap.size ≠ vd.ownBlock := fun e => (by have := (HRd.out.block _ e.symm).1; omega); have hz : Below w.heap.size w wt ∧ wt.cell? ⟨w.heap.size, 0, none⟩ = some (.slice A0 (List.length x.1) c0) ∧ wt.cell? ⟨w.heap.size, 1, none⟩ = some (.slice A1 (List.length x.2.1) c1) ∧ wt.cell? ⟨w.heap.size, 2, none⟩ = some (.slice A2 (List.length x.2.2.1) c2) ∧ wt.cell? ⟨w.heap.size, 3, none⟩ = some (.int .i64 x.2.2.2.1) ∧ wt.cell? ⟨w.heap.size, 4, none⟩ = some (.int .i64 x.2.2.2.2) := ⟨bel_grown (B := w.heap.size) b_2 (Below.size (B := w.heap.size) (w := w) b_2) hg' (fun g hg => (by have := (HRd.out.block _ hg).1; omega)), hg'.cell (HS.out _ b_2).2.1 hne, hg'.cell (HS.out _ b_2).2.2.1 hne, hg'.cell (HS.out _ b_2).2.2.2.1 hne, hg'.cell (HS.out _ b_2).2.2.2.2.1 hne, hg'.cell (HS.out _ b_2).2.2.2.2.2 hne⟩)
   | fail)
 have hzt : w.heap.size < wt.heap.size := World.block_lt_of_cell? wt _ hz.2.1
 have hvt : Below w.heap.size w wt := hz.1
 have hzw : WB.heap.size ≤ wt.heap.size := Nat.le_trans (Below.size (B := WB.heap.size) (w := WB) b_2) hg'.size
 have HRt := Lib.hid hrt
 have HS2 : Hid (∀ W, Below wt.heap.size wt W → Below w.heap.size w W ∧ W.cell? ⟨w.heap.size, 0, none⟩ = some (.slice A0 (List.length x.1) c0) ∧ W.cell? ⟨w.heap.size, 1, none⟩ = some (.slice A1 (List.length x.2.1) c1) ∧ W.cell? ⟨w.heap.size, 2, none⟩ = some (.slice A2 (List.length x.2.2.1) c2) ∧ W.cell? ⟨w.heap.size, 3, none⟩ = some (.int .i64 x.2.2.2.1) ∧ W.cell? ⟨w.heap.size, 4, none⟩ = some (.int .i64 x.2.2.2.2)) := fun W hW => ⟨bel_trans hz.1 hW, (hW.cell (p := ⟨w.heap.size, 0, none⟩) hzt).trans hz.2.1, (hW.cell (p := ⟨w.heap.size, 1, none⟩) hzt).trans hz.2.2.1, (hW.cell (p := ⟨w.heap.size, 2, none⟩) hzt).trans hz.2.2.2.1, (hW.cell (p := ⟨w.heap.size, 3, none⟩) hzt).trans hz.2.2.2.2.1, (hW.cell (p := ⟨w.heap.size, 4, none⟩) hzt).trans hz.2.2.2.2.2⟩
 have HWT := Lib.hid hz
 clear hz hrt hg' hne
 clear HRd HRe HRa HBa HBd HBe hba hbd hbe
 go_wp2_with fail
 set_option maxRecDepth 100000 in go_region_held3 (fun W => Below w.heap.size w W ∧ W.cell? ⟨w.heap.size, 0, none⟩ = some (.slice A0 (List.length x.1) c0) ∧ W.cell? ⟨w.heap.size, 1, none⟩ = some (.slice A1 (List.length x.2.1) c1) ∧ W.cell? ⟨w.heap.size, 2, none⟩ = some (.slice A2 (List.length x.2.2.1) c2) ∧ W.cell? ⟨w.heap.size, 3, none⟩ = some (.int .i64 x.2.2.2.1) ∧ W.cell? ⟨w.heap.size, 4, none⟩ = some (.int .i64 x.2.2.2.2)) (first | (exact hz') | (exact HS3.out _ b_2) | (exact HS2.out _ b_2))
  (first
   | (go_at_call 128; (with_reducible refine (C_spec_AppendName _ _ [] _ x.2.2.1 (rd_empty _ _) (Ty.rd_below b_2 (Ty.rd_below hvt g2)) b_30).mono ?_); rintro e wc ⟨vc, rfl, hrc, hbc⟩; have HBc := Lib.hid (show Below wt.heap.size wt wc from b_2); have HRc := Lib.hid (hrc.mono (base' := wt.heap.size) (Below.size (B := wt.heap.size) (w := wt) b_2)); clear hrc)
   | (go_at_call 136; (with_reducible refine (C_spec_BytesToInts _ _ (f_AppendName [] x.2.2.1) (Ty.rd_below b_2 (HRc.out.rd HBc.out.size)) (by have := HL3.out; simp only [List.length_nil] at this; omega)).mono ?_); rintro e wf ⟨vf, rfl, hrf, hbf⟩; have HBf := Lib.hid (show Below wt.heap.size wt wf from b_2); have HRf := Lib.hid (hrf.mono (base' := wt.heap.size) (Below.size (B := wt.heap.size) (w := wt) b_2)); clear hrf)
   | ((refine step_append_row b_31 _ _ 92 b_31 flatI WB.heap.size 3 infoI rfl Try.underlying92 _ _ (bti (f_AppendName [] x.1) ++ bti x.2.1) (bti (f_AppendName [] x.2.2.1)) b_31 b_31 (HRt.out.below b_2) (Ty.rd_below b_2 (HRf.out.rd HBf.out.size)) (by have := HLB.out; omega) (by have := HLB.out; unfold maxLen; omega) (Nat.le_trans hzw (Below.size (B := wt.heap.size) (w := wt) b_2)) ?_); intro vu wu hru hg'; have hne : some w.heap.size ≠ vt.ownBlock := fun e => (by have := (HRt.out.block _ e.symm).1; omega); have hzu : Below w.heap.size w wu ∧ wu.cell? ⟨w.heap.size, 0, none⟩ = some (.slice A0 (List.length x.1) c0) ∧ wu.cell? ⟨w.heap.size, 1, none⟩ = some (.slice A1 (List.length x.2.1) c1) ∧ wu.cell? ⟨w.heap.size, 2, none⟩ = some (.slice A2 (List.length x.2.2.1) c2) ∧ wu.cell? ⟨w.heap.size, 3, none⟩ = some (.int .i64 x.2.2.2.1) ∧ wu.cell? ⟨w.heap.size, 4, none⟩ = some (.int .i64 x.2.2.2.2) := ⟨bel_grown (B := w.heap.size) b_2 (Below.size (B := w.heap.size) (w := w) b_2) hg' (fun g hg => (by have := (HRt.out.block _ hg).1; omega)), hg'.cell (HS2.out _ b_2).2.1 hne, hg'.cell (HS2.out _ b_2).2.2.1 hne, hg'.cell (HS2.out _ b_2).2.2.2.1 hne, hg'.cell (HS2.out _ b_2).2.2.2.2.1 hne, hg'.cell (HS2.out _ b_2).2.2.2.2.2 hne⟩; (try (refine viaP (p := wu.cell? ⟨wt.heap.size, 0, none⟩ = some (.int .i64 x.2.2.2.1)) ?_ (fun HKT => ?_); (focus (refine hg'.cell (a := ⟨wt.heap.size, 0, none⟩) ?_ (fun e => (by have := (HRt.out.block (wt.heap.size) e.symm).2; skip; omega)); refine lit1_cell (w := wt) (te := 3) ?_ ?_; (focus (first | rfl | (simp only [World.size_alloc, World.size_drew]; done))); ((repeat' (first | (with_reducible exact Below.refl _ _) | (with_reducible assumption) | (with_reducible refine bel_set ?_ b_24 _) | (with_reducible refine bel_alloc ?_ _) | (with_reducible refine bel_drewN ?_ _) | (with_reducible refine bel_drew ?_) | (with_reducible refine bel_trans ?_ b_26))); done))); have HK0 := Lib.hid HKT; clear HKT)); (try (refine viaP (p := wu.cell? ⟨wt.heap.size + 1, 0, none⟩ = some (.int .i64 x.2.2.2.1)) ?_ (fun HKT => ?_); (focus (refine hg'.cell (a := ⟨wt.heap.size + 1, 0, none⟩) ?_ (fun e => (by have := (HRt.out.block (wt.heap.size + 1) e.symm).2; skip; omega)); refine lit1_cell (w := wt.alloc (.cells #[] 5)) (te := 3) ?_ ?_; (focus (first | rfl | (simp only [World.size_alloc, World.size_drew]; done))); ((repeat' (first | (with_reducible exact Below.refl _ _) | (with_reducible assumption) | (with_reducible refine bel_set ?_ b_24 _) | (with_reducible refine bel_alloc ?_ _) | (with_reducible refine bel_drewN ?_ _) | (with_reducible refine bel_drew ?_) | (with_reducible refine bel_trans ?_ b_26))); done))); have HK1 := Lib.hid HKT; clear HKT)); (try (refine viaP (p := wu.cell? ⟨wc.heap.size, 0, none⟩ = some (.int .i64 x.2.2.2.1)) ?_ (fun HKT => ?_); (focus (refine hg'.cell (a := ⟨wc.heap.size, 0, none⟩) ?_ (fun e => (by have := (HRt.out.block (wc.heap.size) e.symm).2; have := HBc.out.size; omega)); refine lit1_cell (w := wc) (te := 3) ?_ ?_; (focus (first | rfl | (simp only [World.size_alloc, World.size_drew]; done))); ((repeat' (first | (with_reducible exact Below.refl _ _) | (with_reducible assumption) | (with_reducible refine bel_set ?_ b_24 _) | (with_reducible refine bel_alloc ?_ _) | (with_reducible refine bel_drewN ?_ _) | (with_reducible refine bel_drew ?_) | (with_reducible refine bel_trans ?_ b_26))); done))); have HK2 := Lib.hid HKT; clear HKT)); (try (refine viaP (p := wu.cell? ⟨wf.heap.size, 0, none⟩ = some (.int .i64 x.2.2.2.1)) ?_ (fun HKT => ?_); (focus (refine hg'.cell (a := ⟨wf.heap.size, 0, none⟩) ?_ (fun e => (by have := (HRt.out.block (wf.heap.size) e.symm).2; have := HBf.out.size; omega)); refine lit1_cell (w := wf) (te := 3) ?_ ?_; (focus (first | rfl | (simp only [World.size_alloc, World.size_drew]; done))); ((repeat' (first | (with_reducible exact Below.refl _ _) | (with_reducible assumption) | (with_reducible refine bel_set ?_ b_24 _) | (with_reducible refine bel_alloc ?_ _) | (with_reducible refine bel_drewN ?_ _) | (with_reducible refine bel_drew ?_) | (with_reducible refine bel_trans ?_ b_26))); done))); have HK3 := Lib.hid HKT; clear HKT)); have hwu := hzu.1; have HRu := Lib.hid hru; clear hru; have hzz : WB.heap.size ≤ wu.heap.size := Nat.le_trans (Nat.le_trans hzw (Below.size (B := wt.heap.size) (w := wt) b_2)) hg'.size; have hzl : w.heap.size < wu.heap.size := World.block_lt_of_cell? wu _ hzu.2.1; have HS3 : Hid (∀ W, Below wu.heap.size wu W → Below w.heap.size w W ∧ W.cell? ⟨w.heap.size, 0, none⟩ = some (.slice A0 (List.length x.1) c0) ∧ W.cell? ⟨w.heap.size, 1, none⟩ = some (.slice A1 (List.length x.2.1) c1) ∧ W.cell? ⟨w.heap.size, 2, none⟩ = some (.slice A2 (List.length x.2.2.1) c2) ∧ W.cell? ⟨w.heap.size, 3, none⟩ = some (.int .i64 x.2.2.2.1) ∧ W.cell? ⟨w.heap.size, 4, none⟩ = some (.int .i64 x.2.2.2.2)) := (fun W hW => ⟨bel_trans hzu.1 hW, (hW.cell (p := ⟨w.heap.size, 0, none⟩) hzl).trans hzu.2.1, (hW.cell (p := ⟨w.heap.size, 1, none⟩) hzl).trans hzu.2.2.1, (hW.cell (p := ⟨w.heap.size, 2, none⟩) hzl).trans hzu.2.2.2.1, (hW.cell (p := ⟨w.heap.size, 3, none⟩) hzl).trans hzu.2.2.2.2.1, (hW.cell (p := ⟨w.heap.size, 4, none⟩) hzl).trans hzu.2.2.2.2.2⟩); clear hg' hne)
   | ((refine step_append_row b_31 _ _ 92 b_31 flatI WB.heap.size 3 infoI rfl Try.underlying92 _ _ ((bti (f_AppendName [] x.1) ++ bti x.2.1) ++ bti (f_AppendName [] x.2.2.1)) ([x.2.2.2.1]) b_31 b_31 (HRu.out.below b_2) (by first | exact rd_cell1 b3 HK0.out | exact rd_cell1 b3 HK1.out | exact rd_cell1 b3 HK2.out | exact rd_cell1 b3 HK3.out | (refine rd_lit1' (w := wu) (te := 3) (n := x.2.2.2.1) ?_ b3 ?_; (focus (first | rfl | (simp only [World.size_alloc, World.size_drew]; done))); ((repeat' (first | (with_reducible exact Below.refl _ _) | (with_reducible assumption) | (with_reducible refine bel_set ?_ b_24 _) | (with_reducible refine bel_alloc ?_ _) | (with_reducible refine bel_drewN ?_ _) | (with_reducible refine bel_drew ?_) | (with_reducible refine bel_trans ?_ b_26))); done)) | fail) (by have := HLB.out; rw [List.length_append, List.length_singleton]; omega) (by have := HLB.out; rw [List.length_append, List.length_singleton]; unfold maxLen; omega) (Nat.le_trans hzz (Below.size (B := wu.heap.size) (w := wu) b_2)) ?_); intro v' w' hr' hg'; have hne : some w.heap.size ≠ vu.ownBlock := fun e => (by have := (HRu.out.block _ e.symm).1; omega); have hz' : Below w.heap.size w w' ∧ w'.cell? ⟨w.heap.size, 0, none⟩ = some (.slice A0 (List.length x.1) c0) ∧ w'.cell? ⟨w.heap.size, 1, none⟩ = some (.slice A1 (List.length x.2.1) c1) ∧ w'.cell? ⟨w.heap.size, 2, none⟩ = some (.slice A2 (List.length x.2.2.1) c2) ∧ w'.cell? ⟨w.heap.size, 3, none⟩ = some (.int .i64 x.2.2.2.1) ∧ w'.cell? ⟨w.heap.size, 4, none⟩ = some (.int .i64 x.2.2.2.2) := ⟨bel_grown (B := w.heap.size) b_2 (Below.size (B := w.heap.size) (w := w) b_2) hg' (fun g hg => (by have := (HRu.out.block _ hg).1; omega)), hg'.cell (HS3.out _ b_2).2.1 hne, hg'.cell (HS3.out _ b_2).2.2.1 hne, hg'.cell (HS3.out _ b_2).2.2.2.1 hne, hg'.cell (HS3.out _ b_2).2.2.2.2.1 hne, hg'.cell (HS3.out _ b_2).2.2.2.2.2 hne⟩)
   | fail)
 all_goals (have HR' := Lib.hid hr')
 all_goals (clear hr')
 all_goals go_wp2
 all_goals go_ret
 all_goals exact ⟨_, rfl, by rw [HF.out]; exact HR'.out.mono b_29, hz'.1⟩
theorem C_spec_SignedPortion (w : World) (cs : List Value) (x : tData.D) (h : tData.rd w cs x) (s0 : Ty.bulk tData x ≤ 1048576) :
  Calls Try.prog 64 #[.agg cs.toArray] w (RetRow flatI w 3 (f_SignedPortion x)) := C_spec_SignedPortionB w cs x h (Nat.le_trans s0 b_28)
theorem S_impl_SignedPortion (w : World) (cs : List Value) (x : tData.D) (h : tData.rd w cs x) (s0 : Ty.bulk tData x ≤ 1048576) :
  Calls Try.prog 63 #[.agg cs.toArray] w (RetSl w .int (f_SignedPortion x)) := (C_impl_SignedPortion w cs x h s0).mono fun _ _ h => h.sl
theorem S_spec_SignedPortion (w : World) (cs : List Value) (x : tData.D) (h : tData.rd w cs x) (s0 : Ty.bulk tData x ≤ 1048576) :
  Calls Try.prog 64 #[.agg cs.toArray] w (RetSl w .int (f_SignedPortion x)) := (C_spec_SignedPortion w cs x h s0).mono fun _ _ h => h.sl
def f_VerifyData (a : Int) (x : tData.D) : Bool := inR a 1 2147483646 && decide (x.2.2.2.2 = mac a (f_SignedPortion x))
set_option maxHeartbeats 8000000 in
theorem C_impl_VerifyData (w : World) (a : Int) (cs : List Value) (x : tData.D) (h : tData.rd w cs x) (i0 : -9223372036854775808 ≤ a ∧ a ≤ 9223372036854775807) (s0 : Ty.bulk tData x ≤ 1048576) :
  Calls Try.prog 57 #[.int .i64 a, .agg cs.toArray] w (RetB w (f_VerifyData a x)) := by
 obtain ⟨A0, c0, A1, c1, A2, c2, rfl, g0, g1, g2, b3, b4⟩ := rd_Data h
 have kb0 : (w.alloc (.cells #[.slice A0 (List.length x.1) c0, .slice A1 (List.length x.2.1) c1, .slice A2 (List.length x.2.2.1) c2, .int .i64 x.2.2.2.1, .int .i64 x.2.2.2.2] 46)).cell? ⟨w.heap.size, 0, none⟩ = some (.slice A0 (List.length x.1) c0) := cell_new w _ _ 0 rfl
 have kb1 : (w.alloc (.cells #[.slice A0 (List.length x.1) c0, .slice A1 (List.length x.2.1) c1, .slice A2 (List.length x.2.2.1) c2, .int .i64 x.2.2.2.1, .int .i64 x.2.2.2.2] 46)).cell? ⟨w.heap.size, 1, none⟩ = some (.slice A1 (List.length x.2.1) c1) := cell_new w _ _ 1 rfl
 have kb2 : (w.alloc (.cells #[.slice A0 (List.length x.1) c0, .slice A1 (List.length x.2.1) c1, .slice A2 (List.length x.2.2.1) c2, .int .i64 x.2.2.2.1, .int .i64 x.2.2.2.2] 46)).cell? ⟨w.heap.size, 2, none⟩ = some (.slice A2 (List.length x.2.2.1) c2) := cell_new w _ _ 2 rfl
 have kb3 : (w.alloc (.cells #[.slice A0 (List.length x.1) c0, .slice A1 (List.length x.2.1) c1, .slice A2 (List.length x.2.2.1) c2, .int .i64 x.2.2.2.1, .int .i64 x.2.2.2.2] 46)).cell? ⟨w.heap.size, 3, none⟩ = some (.int .i64 x.2.2.2.1) := cell_new w _ _ 3 rfl
 have kb4 : (w.alloc (.cells #[.slice A0 (List.length x.1) c0, .slice A1 (List.length x.2.1) c1, .slice A2 (List.length x.2.2.1) c2, .int .i64 x.2.2.2.1, .int .i64 x.2.2.2.2] 46)).cell? ⟨w.heap.size, 4, none⟩ = some (.int .i64 x.2.2.2.2) := cell_new w _ _ 4 rfl
 have hvb : Below w.heap.size w (w.alloc (.cells #[.slice A0 (List.length x.1) c0, .slice A1 (List.length x.2.1) c1, .slice A2 (List.length x.2.2.1) c2, .int .i64 x.2.2.2.1, .int .i64 x.2.2.2.2] 46)) := b_5
 have hzb : w.heap.size < (w.alloc (.cells #[.slice A0 (List.length x.1) c0, .slice A1 (List.length x.2.1) c1, .slice A2 (List.length x.2.2.1) c2, .int .i64 x.2.2.2.1, .int .i64 x.2.2.2.2] 46)).heap.size := by rw [World.size_alloc]; omega
 have hF : f_VerifyData a x = (inR a 1 2147483646 && decide (x.2.2.2.2 = mac a (f_SignedPortion x))) := rfl
 generalize f_VerifyData a x = F at hF ⊢
 have HF := Lib.hid hF
 clear hF
 have HLS := Lib.hid (signed_len s0)
 go_enter Try.func57, Try.ntmps57
 go_wp2_with fail
 generalize w.alloc (.cells #[.slice A0 (List.length x.1) c0, .slice A1 (List.length x.2.1) c1, .slice A2 (List.length x.2.2.1) c2, .int .i64 x.2.2.2.1, .int .i64 x.2.2.2.2] 46) = WB at kb0 kb1 kb2 kb3 kb4 hvb hzb ⊢
 have HS : Hid (∀ W, Below WB.heap.size WB W → Below w.heap.size w W ∧ W.cell? ⟨w.heap.size, 0, none⟩ = some (.slice A0 (List.length x.1) c0) ∧ W.cell? ⟨w.heap.size, 1, none⟩ = some (.slice A1 (List.length x.2.1) c1) ∧ W.cell? ⟨w.heap.size, 2, none⟩ = some (.slice A2 (List.length x.2.2.1) c2) ∧ W.cell? ⟨w.heap.size, 3, none⟩ = some (.int .i64 x.2.2.2.1) ∧ W.cell? ⟨w.heap.size, 4, none⟩ = some (.int .i64 x.2.2.2.2)) := fun W hW => ⟨bel_trans hvb hW, (hW.cell (p := ⟨w.heap.size, 0, none⟩) hzb).trans kb0, (hW.cell (p := ⟨w.heap.size, 1, none⟩) hzb).trans kb1, (hW.cell (p := ⟨w.heap.size, 2, none⟩) hzb).trans kb2, (hW.cell (p := ⟨w.heap.size, 3, none⟩) hzb).trans kb3, (hW.cell (p := ⟨w.heap.size, 4, none⟩) hzb).trans kb4⟩
 clear kb0 kb1 kb2 kb3 kb4
 cases q0 : inR a 1 2147483646
 ·rw [q0] at HF
  go_wp2_with fail
  refine wp_region_noPanic ?_
  refine wp_region_held_drew (S := (fun W => Below w.heap.size w W ∧ W.cell? ⟨w.heap.size, 0, none⟩ = some (.slice A0 (List.length x.1) c0) ∧ W.cell? ⟨w.heap.size, 1, none⟩ = some (.slice A1 (List.length x.2.1) c1) ∧ W.cell? ⟨w.heap.size, 2, none⟩ = some (.slice A2 (List.length x.2.2.1) c2) ∧ W.cell? ⟨w.heap.size, 3, none⟩ = some (.int .i64 x.2.2.2.1) ∧ W.cell? ⟨w.heap.size, 4, none⟩ = some (.int .i64 x.2.2.2.2))) b_27 ?_ (fun hHeld => ?_)
  ·exact HS.out _ b_2
  refine tkz 0 ?_
  try simp only [layz]
  refine rz1 1 (fun K hK => ?_)
  go_simp
  go_at_call 65
  refine (C_impl_ValidSecret _ _).mono ?_
  rw [q0]
  rintro e w2 ⟨rfl, hw2⟩
  subst hw2
  refine hK.out _ _ (HS.out _ b_2) (fun hHeld => ?_)
  clear hK K
  try simp only [layz]
  refine tkz 2 ?_
  try simp only [layz]
  refine skz 3 ?_
  try simp only [layz]
  refine skz 4 ?_
  try simp only [layz]
  refine skz 5 ?_
  try simp only [layz]
  refine skz 6 ?_
  try simp only [layz]
  refine skz 7 ?_
  try simp only [layz]
  refine skz 8 ?_
  try simp only [layz]
  refine skz 9 ?_
  try simp only [layz]
  refine tkz2 10 11 ?_
  try simp only [layz]
  refine wpAnyH_done b_27 ?_ _
  refine NoPanic.normal ?_
  go_wp2
  go_ret
  exact ⟨ret_bool (by rw [HF.out]; rfl), b_2⟩
 ·rw [q0] at HF
  go_wp2_with fail
  refine wp_region_noPanic ?_
  refine wp_region_held_drew (S := (fun W => Below w.heap.size w W ∧ W.cell? ⟨w.heap.size, 0, none⟩ = some (.slice A0 (List.length x.1) c0) ∧ W.cell? ⟨w.heap.size, 1, none⟩ = some (.slice A1 (List.length x.2.1) c1) ∧ W.cell? ⟨w.heap.size, 2, none⟩ = some (.slice A2 (List.length x.2.2.1) c2) ∧ W.cell? ⟨w.heap.size, 3, none⟩ = some (.int .i64 x.2.2.2.1) ∧ W.cell? ⟨w.heap.size, 4, none⟩ = some (.int .i64 x.2.2.2.2))) b_27 ?_ (fun hHeld => ?_)
  ·exact HS.out _ b_2
  refine tkz 0 ?_
  try simp only [layz]
  refine rz1 1 (fun K hK => ?_)
  go_simp
  go_at_call 65
  refine (C_impl_ValidSecret _ _).mono ?_
  rw [q0]
  rintro e w2 ⟨rfl, hw2⟩
  subst hw2
  refine hK.out _ _ (HS.out _ b_2) (fun hHeld => ?_)
  clear hK K
  try simp only [layz]
  refine tkz4 2 3 4 5 ?_
  try simp only [layz]
  refine tkz 6 ?_
  try simp only [layz]
  refine rz1 7 (fun K hK => ?_)
  go_simp
  go_at_call 63
  refine (C_impl_SignedPortion _ _ x (Ty.rd_below b_2 (Ty.rd_below hvb h)) s0).mono ?_
  rintro e w3 ⟨v3, rfl, hr3, hb3⟩
  have HR3 := Lib.hid hr3
  clear hr3
  refine hK.out _ _ (HS.out _ b_2) (fun hHeld => ?_)
  clear hK K
  try simp only [layz]
  refine rz1 8 (fun K hK => ?_)
  go_simp
  go_at_call 130
  refine (C_impl_ComputeMAC _ _ a (f_SignedPortion x) i0 (HR3.out.rd hb3.size) (Nat.le_trans HLS.out b_28)).mono ?_
  rintro e w4 ⟨rfl, hb4⟩
  refine hK.out _ _ (HS.out _ b_2) (fun hHeld => ?_)
  clear hK K
  try simp only [layz]
  refine tkz3 9 10 11 ?_
  try simp only [layz]
  refine wpAnyH_done b_27 ?_ _
  refine NoPanic.normal ?_
  go_wp2
  go_ret
  exact ⟨ret_bool (by rw [HF.out]; (rw [Bool.eq_iff_iff]; simp)), b_2⟩
set_option maxHeartbeats 8000000 in
theorem C_spec_VerifyData (w : World) (a : Int) (cs : List Value) (x : tData.D) (h : tData.rd w cs x) (i0 : -9223372036854775808 ≤ a ∧ a ≤ 9223372036854775807) (s0 : Ty.bulk tData x ≤ 1048576) :
  Calls Try.prog 58 #[.int .i64 a, .agg cs.toArray] w (RetB w (f_VerifyData a x)) := by
 obtain ⟨A0, c0, A1, c1, A2, c2, rfl, g0, g1, g2, b3, b4⟩ := rd_Data h
 have kb0 : (w.alloc (.cells #[.slice A0 (List.length x.1) c0, .slice A1 (List.length x.2.1) c1, .slice A2 (List.length x.2.2.1) c2, .int .i64 x.2.2.2.1, .int .i64 x.2.2.2.2] 46)).cell? ⟨w.heap.size, 0, none⟩ = some (.slice A0 (List.length x.1) c0) := cell_new w _ _ 0 rfl
 have kb1 : (w.alloc (.cells #[.slice A0 (List.length x.1) c0, .slice A1 (List.length x.2.1) c1, .slice A2 (List.length x.2.2.1) c2, .int .i64 x.2.2.2.1, .int .i64 x.2.2.2.2] 46)).cell? ⟨w.heap.size, 1, none⟩ = some (.slice A1 (List.length x.2.1) c1) := cell_new w _ _ 1 rfl
 have kb2 : (w.alloc (.cells #[.slice A0 (List.length x.1) c0, .slice A1 (List.length x.2.1) c1, .slice A2 (List.length x.2.2.1) c2, .int .i64 x.2.2.2.1, .int .i64 x.2.2.2.2] 46)).cell? ⟨w.heap.size, 2, none⟩ = some (.slice A2 (List.length x.2.2.1) c2) := cell_new w _ _ 2 rfl
 have kb3 : (w.alloc (.cells #[.slice A0 (List.length x.1) c0, .slice A1 (List.length x.2.1) c1, .slice A2 (List.length x.2.2.1) c2, .int .i64 x.2.2.2.1, .int .i64 x.2.2.2.2] 46)).cell? ⟨w.heap.size, 3, none⟩ = some (.int .i64 x.2.2.2.1) := cell_new w _ _ 3 rfl
 have kb4 : (w.alloc (.cells #[.slice A0 (List.length x.1) c0, .slice A1 (List.length x.2.1) c1, .slice A2 (List.length x.2.2.1) c2, .int .i64 x.2.2.2.1, .int .i64 x.2.2.2.2] 46)).cell? ⟨w.heap.size, 4, none⟩ = some (.int .i64 x.2.2.2.2) := cell_new w _ _ 4 rfl
 have hvb : Below w.heap.size w (w.alloc (.cells #[.slice A0 (List.length x.1) c0, .slice A1 (List.length x.2.1) c1, .slice A2 (List.length x.2.2.1) c2, .int .i64 x.2.2.2.1, .int .i64 x.2.2.2.2] 46)) := b_5
 have hzb : w.heap.size < (w.alloc (.cells #[.slice A0 (List.length x.1) c0, .slice A1 (List.length x.2.1) c1, .slice A2 (List.length x.2.2.1) c2, .int .i64 x.2.2.2.1, .int .i64 x.2.2.2.2] 46)).heap.size := by rw [World.size_alloc]; omega
 have hF : f_VerifyData a x = (inR a 1 2147483646 && decide (x.2.2.2.2 = mac a (f_SignedPortion x))) := rfl
 generalize f_VerifyData a x = F at hF ⊢
 have HF := Lib.hid hF
 clear hF
 have HLS := Lib.hid (signed_len s0)
 go_enter Try.func58, Try.ntmps58
 go_wp2_with fail
 generalize w.alloc (.cells #[.slice A0 (List.length x.1) c0, .slice A1 (List.length x.2.1) c1, .slice A2 (List.length x.2.2.1) c2, .int .i64 x.2.2.2.1, .int .i64 x.2.2.2.2] 46) = WB at kb0 kb1 kb2 kb3 kb4 hvb hzb ⊢
 have HS : Hid (∀ W, Below WB.heap.size WB W → Below w.heap.size w W ∧ W.cell? ⟨w.heap.size, 0, none⟩ = some (.slice A0 (List.length x.1) c0) ∧ W.cell? ⟨w.heap.size, 1, none⟩ = some (.slice A1 (List.length x.2.1) c1) ∧ W.cell? ⟨w.heap.size, 2, none⟩ = some (.slice A2 (List.length x.2.2.1) c2) ∧ W.cell? ⟨w.heap.size, 3, none⟩ = some (.int .i64 x.2.2.2.1) ∧ W.cell? ⟨w.heap.size, 4, none⟩ = some (.int .i64 x.2.2.2.2)) := fun W hW => ⟨bel_trans hvb hW, (hW.cell (p := ⟨w.heap.size, 0, none⟩) hzb).trans kb0, (hW.cell (p := ⟨w.heap.size, 1, none⟩) hzb).trans kb1, (hW.cell (p := ⟨w.heap.size, 2, none⟩) hzb).trans kb2, (hW.cell (p := ⟨w.heap.size, 3, none⟩) hzb).trans kb3, (hW.cell (p := ⟨w.heap.size, 4, none⟩) hzb).trans kb4⟩
 clear kb0 kb1 kb2 kb3 kb4
 cases q0 : inR a 1 2147483646
 ·rw [q0] at HF
  go_wp2_with fail
  refine wp_region_noPanic ?_
  refine wp_region_held_drew (S := (fun W => Below w.heap.size w W ∧ W.cell? ⟨w.heap.size, 0, none⟩ = some (.slice A0 (List.length x.1) c0) ∧ W.cell? ⟨w.heap.size, 1, none⟩ = some (.slice A1 (List.length x.2.1) c1) ∧ W.cell? ⟨w.heap.size, 2, none⟩ = some (.slice A2 (List.length x.2.2.1) c2) ∧ W.cell? ⟨w.heap.size, 3, none⟩ = some (.int .i64 x.2.2.2.1) ∧ W.cell? ⟨w.heap.size, 4, none⟩ = some (.int .i64 x.2.2.2.2))) b_27 ?_ (fun hHeld => ?_)
  ·exact HS.out _ b_2
  refine tkz 0 ?_
  try simp only [layz]
  refine rz1 1 (fun K hK => ?_)
  go_simp
  go_at_call 132
  refine (C_spec_ValidSecret _ _).mono ?_
  rw [q0]
  rintro e w2 ⟨rfl, hw2⟩
  subst hw2
  refine hK.out _ _ (HS.out _ b_2) (fun hHeld => ?_)
  clear hK K
  try simp only [layz]
  refine tkz 2 ?_
  try simp only [layz]
  refine skz 3 ?_
  try simp only [layz]
  refine skz 4 ?_
  try simp only [layz]
  refine skz 5 ?_
  try simp only [layz]
  refine skz 6 ?_
  try simp only [layz]
  refine skz 7 ?_
  try simp only [layz]
  refine skz 8 ?_
  try simp only [layz]
  refine skz 9 ?_
  try simp only [layz]
  refine tkz2 10 11 ?_
  try simp only [layz]
  refine wpAnyH_done b_27 ?_ _
  refine NoPanic.normal ?_
  go_wp2
  go_ret
  exact ⟨ret_bool (by rw [HF.out]; rfl), b_2⟩
 ·rw [q0] at HF
  go_wp2_with fail
  refine wp_region_noPanic ?_
  refine wp_region_held_drew (S := (fun W => Below w.heap.size w W ∧ W.cell? ⟨w.heap.size, 0, none⟩ = some (.slice A0 (List.length x.1) c0) ∧ W.cell? ⟨w.heap.size, 1, none⟩ = some (.slice A1 (List.length x.2.1) c1) ∧ W.cell? ⟨w.heap.size, 2, none⟩ = some (.slice A2 (List.length x.2.2.1) c2) ∧ W.cell? ⟨w.heap.size, 3, none⟩ = some (.int .i64 x.2.2.2.1) ∧ W.cell? ⟨w.heap.size, 4, none⟩ = some (.int .i64 x.2.2.2.2))) b_27 ?_ (fun hHeld => ?_)
  ·exact HS.out _ b_2
  refine tkz 0 ?_
  try simp only [layz]
  refine rz1 1 (fun K hK => ?_)
  go_simp
  go_at_call 132
  refine (C_spec_ValidSecret _ _).mono ?_
  rw [q0]
  rintro e w2 ⟨rfl, hw2⟩
  subst hw2
  refine hK.out _ _ (HS.out _ b_2) (fun hHeld => ?_)
  clear hK K
  try simp only [layz]
  refine tkz4 2 3 4 5 ?_
  try simp only [layz]
  refine tkz 6 ?_
  try simp only [layz]
  refine rz1 7 (fun K hK => ?_)
  go_simp
  go_at_call 64
  refine (C_spec_SignedPortion _ _ x (Ty.rd_below b_2 (Ty.rd_below hvb h)) s0).mono ?_
  rintro e w3 ⟨v3, rfl, hr3, hb3⟩
  have HR3 := Lib.hid hr3
  clear hr3
  refine hK.out _ _ (HS.out _ b_2) (fun hHeld => ?_)
  clear hK K
  try simp only [layz]
  refine rz1 8 (fun K hK => ?_)
  go_simp
  go_at_call 131
  refine (C_spec_ComputeMAC _ _ a (f_SignedPortion x) i0 (HR3.out.rd hb3.size) (Nat.le_trans HLS.out b_28)).mono ?_
  rintro e w4 ⟨rfl, hb4⟩
  refine hK.out _ _ (HS.out _ b_2) (fun hHeld => ?_)
  clear hK K
  try simp only [layz]
  refine tkz3 9 10 11 ?_
  try simp only [layz]
  refine wpAnyH_done b_27 ?_ _
  refine NoPanic.normal ?_
  go_wp2
  go_ret
  exact ⟨ret_bool (by rw [HF.out]; (rw [Bool.eq_iff_iff]; simp)), b_2⟩
end Go.Proofs.Ytldgbnlcnlfmeaa
