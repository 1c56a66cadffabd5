/- Texts of this claim, merged by a program: Sig Sgd. -/
import Derived.Test.YtldgbnlcnlfmeaaQcP
import Derived.Test.YtldgbnlcnlfmeaaQc11
import Derived.Test.YtldgbnlcnlfmeaaQc1
import Derived.Deep.QuietTactic
import Derived.BigQuiet
import Derived.Test.YtldgbnlcnlfmeaaQc2
namespace Go.Proofs.Ytldgbnlcnlfmeaa
open Go.RowKit
set_option linter.unusedVariables false
set_option linter.unusedSimpArgs false
theorem appendName_len (b : List UInt8) (n : List (List UInt8)) : (f_AppendName b n).length ≤ b.length + 90 := by
 unfold f_AppendName
 split
 ·rename_i h
  have hv := validName_parts h
  have h1 := foldBytes_len n (f_AppendVarint b n.length) hv.2
  have h2 := appendVarint_len b n.length
  have h3 := hv.1
  unfold nameBytes
  omega
 ·omega
theorem bti_len (x : List UInt8) : (bti x).length = x.length + 1 := pre_len _ _
def f_SignedPortion (x : tData.D) : List Int := [bti (f_AppendName [] x.1), bti x.2.1, bti (f_AppendName [] x.2.2.1)].flatten ++ [x.2.2.2.1]
theorem content_lenB {x : tData.D} {B : Nat} (s0 : Ty.bulk tData x ≤ B) : x.2.1.length ≤ B := by
 have h1 : Ty.bulk (.sl .str) x.1 + (Ty.bulk (.sl .byte) x.2.1 + (Ty.bulk (.sl .str) x.2.2.1 + (0 + 0))) ≤ B := s0
 exact Ty.bulk_len (e := .byte) (x := x.2.1) (n := B) b_34
theorem signed_lenB {x : tData.D} (s0 : Ty.bulk tData x ≤ 4000000) : (f_SignedPortion x).length ≤ 4010000 := by
 have h1 := content_lenB s0
 have h2 := appendName_len [] x.1
 have h3 := appendName_len [] x.2.2.1
 have h4 : (f_SignedPortion x).length = (bti (f_AppendName [] x.1)).length + ((bti x.2.1).length + (bti (f_AppendName [] x.2.2.1)).length) + 1 := by
  unfold f_SignedPortion; simp; omega
 rw [h4, bti_len, bti_len, bti_len]
 simp only [List.length_nil] at h2 h3
 omega
theorem lit1_cell {w W : World} {te : TypeId} {g : Nat} {n : Int} (hg : g = w.heap.size) (hb : Below (w.alloc (.cells #[.int .i64 n] te)).heap.size (w.alloc (.cells #[.int .i64 n] te)) W) : W.cell? ⟨g, 0, none⟩ = some (.int .i64 n) := by
 subst hg; rw [hb.cell (p := ⟨w.heap.size, 0, none⟩) (by rw [World.size_alloc]; simp)]; exact cell_new w _ _ 0 rfl
theorem rd_cell1 {W : World} {g : Nat} {n : Int} (ho : -9223372036854775808 ≤ n ∧ n ≤ 9223372036854775807) (h : W.cell? ⟨g, 0, none⟩ = some (.int .i64 n)) : (Ty.sl .int).rd W [.slice (some ⟨g, 0, none⟩) 1 1] [n] := by
 refine ⟨_, 1, rfl, Nat.le_refl _, ⟨by unfold maxLen; omega, fun h => by cases h⟩, by simp, fun _ => ⟨g, 0, rfl, fun i hi => ?_⟩⟩
 obtain rfl : i = 0 := by simpa using hi
 refine ⟨[.int .i64 n], rfl, fun j hj => ?_, ⟨rfl, ho⟩⟩
 obtain rfl : j = 0 := by simp [Ty.sz] at hj; omega
 simpa using h
theorem rd_lit1' {w W : World} {te : TypeId} {g : Nat} {n : Int} (hg : g = w.heap.size) (ho : -9223372036854775808 ≤ n ∧ n ≤ 9223372036854775807) (hb : Below (w.alloc (.cells #[.int .i64 n] te)).heap.size (w.alloc (.cells #[.int .i64 n] te)) W) :
  (Ty.sl .int).rd W [.slice (some ⟨g, 0, none⟩) 1 1] [n] := by
 subst hg; exact Ty.rd_below hb ((Row.lit1 flatI w te n (okI ho.1 ho.2) (Nat.le_refl _)).rd (by rw [World.size_alloc]; omega))
set_option maxHeartbeats 8000000 in
theorem C_spec_SignedPortionB (w : World) (cs : List Value) (x : tData.D) (h : tData.rd w cs x) (s0 : Ty.bulk tData x ≤ 4000000) :
  Calls Try.prog 64 #[.agg cs.toArray] w (RetRow flatI w 3 (f_SignedPortion x)) := by
 obtain ⟨A0, c0, A1, c1, A2, c2, rfl, g0, g1, g2, b3, b4⟩ := rd_Data h
 have kb0 : (w.alloc (.cells #[.slice A0 (List.length x.1) c0, .slice A1 (List.length x.2.1) c1, .slice A2 (List.length x.2.2.1) c2, .int .i64 x.2.2.2.1, .int .i64 x.2.2.2.2] 46)).cell? ⟨w.heap.size, 0, none⟩ = some (.slice A0 (List.length x.1) c0) := cell_new w _ _ 0 rfl
 have kb1 : (w.alloc (.cells #[.slice A0 (List.length x.1) c0, .slice A1 (List.length x.2.1) c1, .slice A2 (List.length x.2.2.1) c2, .int .i64 x.2.2.2.1, .int .i64 x.2.2.2.2] 46)).cell? ⟨w.heap.size, 1, none⟩ = some (.slice A1 (List.length x.2.1) c1) := cell_new w _ _ 1 rfl
 have kb2 : (w.alloc (.cells #[.slice A0 (List.length x.1) c0, .slice A1 (List.length x.2.1) c1, .slice A2 (List.length x.2.2.1) c2, .int .i64 x.2.2.2.1, .int .i64 x.2.2.2.2] 46)).cell? ⟨w.heap.size, 2, none⟩ = some (.slice A2 (List.length x.2.2.1) c2) := cell_new w _ _ 2 rfl
 have kb3 : (w.alloc (.cells #[.slice A0 (List.length x.1) c0, .slice A1 (List.length x.2.1) c1, .slice A2 (List.length x.2.2.1) c2, .int .i64 x.2.2.2.1, .int .i64 x.2.2.2.2] 46)).cell? ⟨w.heap.size, 3, none⟩ = some (.int .i64 x.2.2.2.1) := cell_new w _ _ 3 rfl
 have kb4 : (w.alloc (.cells #[.slice A0 (List.length x.1) c0, .slice A1 (List.length x.2.1) c1, .slice A2 (List.length x.2.2.1) c2, .int .i64 x.2.2.2.1, .int .i64 x.2.2.2.2] 46)).cell? ⟨w.heap.size, 4, none⟩ = some (.int .i64 x.2.2.2.2) := cell_new w _ _ 4 rfl
 have hvb : Below w.heap.size w (w.alloc (.cells #[.slice A0 (List.length x.1) c0, .slice A1 (List.length x.2.1) c1, .slice A2 (List.length x.2.2.1) c2, .int .i64 x.2.2.2.1, .int .i64 x.2.2.2.2] 46)) := b_6
 have hzb : w.heap.size < (w.alloc (.cells #[.slice A0 (List.length x.1) c0, .slice A1 (List.length x.2.1) c1, .slice A2 (List.length x.2.2.1) c2, .int .i64 x.2.2.2.1, .int .i64 x.2.2.2.2] 46)).heap.size := by rw [World.size_alloc]; omega
 have hcl := content_lenB s0
 have HL1 := Lib.hid (appendName_len [] x.1)
 have HL3 := Lib.hid (appendName_len [] x.2.2.1)
 have HLA : Hid ((bti (f_AppendName [] x.1)).length + (bti x.2.1).length ≤ 4050000) := by
  have h1 := HL1.out
  simp only [List.length_nil] at h1
  show _ ≤ _
  rw [bti_len, bti_len]; omega
 have HLB : Hid ((bti (f_AppendName [] x.1) ++ bti x.2.1).length + (bti (f_AppendName [] x.2.2.1)).length ≤ 4060000) := by
  have h1 := HLA.out; have h3 := HL3.out
  simp only [List.length_nil] at h3
  show _ ≤ _
  rw [List.length_append, bti_len (f_AppendName [] x.2.2.1)]; omega
 have HF := Lib.hid (show f_SignedPortion x = ((bti (f_AppendName [] x.1) ++ bti x.2.1) ++ bti (f_AppendName [] x.2.2.1)) ++ [x.2.2.2.1] from by unfold f_SignedPortion; simp)
 go_enter Try.func64, Try.ntmps64
 go_wp2_with fail
 generalize w.alloc (.cells #[.slice A0 (List.length x.1) c0, .slice A1 (List.length x.2.1) c1, .slice A2 (List.length x.2.2.1) c2, .int .i64 x.2.2.2.1, .int .i64 x.2.2.2.2] 46) = WB at kb0 kb1 kb2 kb3 kb4 hvb hzb ⊢
 have HS : Hid (∀ W, Below WB.heap.size WB W → Below w.heap.size w W ∧ W.cell? ⟨w.heap.size, 0, none⟩ = some (.slice A0 (List.length x.1) c0) ∧ W.cell? ⟨w.heap.size, 1, none⟩ = some (.slice A1 (List.length x.2.1) c1) ∧ W.cell? ⟨w.heap.size, 2, none⟩ = some (.slice A2 (List.length x.2.2.1) c2) ∧ W.cell? ⟨w.heap.size, 3, none⟩ = some (.int .i64 x.2.2.2.1) ∧ W.cell? ⟨w.heap.size, 4, none⟩ = some (.int .i64 x.2.2.2.2)) := fun W hW => ⟨bel_trans hvb hW, (hW.cell (p := ⟨w.heap.size, 0, none⟩) hzb).trans kb0, (hW.cell (p := ⟨w.heap.size, 1, none⟩) hzb).trans kb1, (hW.cell (p := ⟨w.heap.size, 2, none⟩) hzb).trans kb2, (hW.cell (p := ⟨w.heap.size, 3, none⟩) hzb).trans kb3, (hW.cell (p := ⟨w.heap.size, 4, none⟩) hzb).trans kb4⟩
 clear kb0 kb1 kb2 kb3 kb4
 set_option maxRecDepth 100000 in go_region_held3 (fun W => Below w.heap.size w W ∧ W.cell? ⟨w.heap.size, 0, none⟩ = some (.slice A0 (List.length x.1) c0) ∧ W.cell? ⟨w.heap.size, 1, none⟩ = some (.slice A1 (List.length x.2.1) c1) ∧ W.cell? ⟨w.heap.size, 2, none⟩ = some (.slice A2 (List.length x.2.2.1) c2) ∧ W.cell? ⟨w.heap.size, 3, none⟩ = some (.int .i64 x.2.2.2.1) ∧ W.cell? ⟨w.heap.size, 4, none⟩ = some (.int .i64 x.2.2.2.2)) (first | (exact hz) | (exact HS.out _ b_2))
  (first
   | (go_at_call 128; (with_reducible refine (C_spec_AppendName _ _ [] _ x.1 (rd_empty _ _) (Ty.rd_below b_2 (Ty.rd_below hvb g0)) (by simp)).mono ?_); rintro e wa ⟨va, rfl, hra, hba⟩; have HBa := Lib.hid (show Below WB.heap.size WB wa from b_2); have HRa := Lib.hid (hra.mono (base' := WB.heap.size) (Below.size (B := WB.heap.size) (w := WB) b_2)); clear hra)
   | (go_at_call 136; (with_reducible refine (C_spec_BytesToInts _ _ (f_AppendName [] x.1) (Ty.rd_below b_2 (HRa.out.rd HBa.out.size)) (by have := HL1.out; simp only [List.length_nil] at this; omega)).mono ?_); rintro e wd ⟨vd, rfl, hrd, hbd⟩; have HBd := Lib.hid (show Below WB.heap.size WB wd from b_2); have HRd := Lib.hid (hrd.mono (base' := WB.heap.size) (Below.size (B := WB.heap.size) (w := WB) b_2)); clear hrd)
   | (go_at_call 136; (with_reducible refine (C_spec_BytesToInts _ _ x.2.1 (Ty.rd_below b_2 (Ty.rd_below hvb g1)) b_34).mono ?_); rintro e we ⟨ve, rfl, hre, hbe⟩; have HBe := Lib.hid (show Below WB.heap.size WB we from b_2); have HRe := Lib.hid (hre.mono (base' := WB.heap.size) (Below.size (B := WB.heap.size) (w := WB) b_2)); clear hre)
   | ((refine step_append_row b_35 _ _ 92 b_35 flatI WB.heap.size 3 infoI rfl Try.underlying92 _ _ (bti (f_AppendName [] x.1)) (bti x.2.1) b_35 b_35 (HRd.out.below b_2) (Ty.rd_below b_2 (HRe.out.rd HBe.out.size)) (by have := HLA.out; omega) (by have := HLA.out; unfold maxLen; omega) (Below.size (B := WB.heap.size) (w := WB) b_2) ?_); intro vt wt hrt hg'; have hne : some w.heap.size ≠ vd.ownBlock := fun e => (by have := (HRd.out.block _ e.symm).1; omega); have hz : Below w.heap.size w wt ∧ wt.cell? ⟨w.heap.size, 0, none⟩ = some (.slice A0 (List.length x.1) c0) ∧ wt.cell? ⟨w.heap.size, 1, none⟩ = some (.slice A1 (List.length x.2.1) c1) ∧ wt.cell? ⟨w.heap.size, 2, none⟩ = some (.slice A2 (List.length x.2.2.1) c2) ∧ wt.cell? ⟨w.heap.size, 3, none⟩ = some (.int .i64 x.2.2.2.1) ∧ wt.cell? ⟨w.heap.size, 4, none⟩ = some (.int .i64 x.2.2.2.2) := ⟨bel_grown (B := w.heap.size) b_2 (Below.size (B := w.heap.size) (w := w) b_2) hg' (fun g hg => (by have := (HRd.out.block _ hg).1; omega)), hg'.cell (HS.out _ b_2).2.1 hne, hg'.cell (HS.out _ b_2).2.2.1 hne, hg'.cell (HS.out _ b_2).2.2.2.1 hne, hg'.cell (HS.out _ b_2).2.2.2.2.1 hne, hg'.cell (HS.out _ b_2).2.2.2.2.2 hne⟩)
   | fail)
 have hzt : w.heap.size < wt.heap.size := World.block_lt_of_cell? wt _ hz.2.1
 have hvt : Below w.heap.size w wt := hz.1
 have hzw : WB.heap.size ≤ wt.heap.size := Nat.le_trans (Below.size (B := WB.heap.size) (w := WB) b_2) hg'.size
 have HRt := Lib.hid hrt
 have HS2 : Hid (∀ W, Below wt.heap.size wt W → Below w.heap.size w W ∧ W.cell? ⟨w.heap.size, 0, none⟩ = some (.slice A0 (List.length x.1) c0) ∧ W.cell? ⟨w.heap.size, 1, none⟩ = some (.slice A1 (List.length x.2.1) c1) ∧ W.cell? ⟨w.heap.size, 2, none⟩ = some (.slice A2 (List.length x.2.2.1) c2) ∧ W.cell? ⟨w.heap.size, 3, none⟩ = some (.int .i64 x.2.2.2.1) ∧ W.cell? ⟨w.heap.size, 4, none⟩ = some (.int .i64 x.2.2.2.2)) := fun W hW => ⟨bel_trans hz.1 hW, (hW.cell (p := ⟨w.heap.size, 0, none⟩) hzt).trans hz.2.1, (hW.cell (p := ⟨w.heap.size, 1, none⟩) hzt).trans hz.2.2.1, (hW.cell (p := ⟨w.heap.size, 2, none⟩) hzt).trans hz.2.2.2.1, (hW.cell (p := ⟨w.heap.size, 3, none⟩) hzt).trans hz.2.2.2.2.1, (hW.cell (p := ⟨w.heap.size, 4, none⟩) hzt).trans hz.2.2.2.2.2⟩
 have HWT := Lib.hid hz
 clear hz hrt hg' hne
 clear HRd HRe HRa HBa HBd HBe hba hbd hbe
 go_wp2_with fail
 set_option maxRecDepth 100000 in go_region_held3 (fun W => Below w.heap.size w W ∧ W.cell? ⟨w.heap.size, 0, none⟩ = some (.slice A0 (List.length x.1) c0) ∧ W.cell? ⟨w.heap.size, 1, none⟩ = some (.slice A1 (List.length x.2.1) c1) ∧ W.cell? ⟨w.heap.size, 2, none⟩ = some (.slice A2 (List.length x.2.2.1) c2) ∧ W.cell? ⟨w.heap.size, 3, none⟩ = some (.int .i64 x.2.2.2.1) ∧ W.cell? ⟨w.heap.size, 4, none⟩ = some (.int .i64 x.2.2.2.2)) (first | (exact hz') | (exact HS3.out _ b_2) | (exact HS2.out _ b_2))
  (first
   | (go_at_call 128; (with_reducible refine (C_spec_AppendName _ _ [] _ x.2.2.1 (rd_empty _ _) (Ty.rd_below b_2 (Ty.rd_below hvt g2)) (by simp)).mono ?_); rintro e wc ⟨vc, rfl, hrc, hbc⟩; have HBc := Lib.hid (show Below wt.heap.size wt wc from b_2); have HRc := Lib.hid (hrc.mono (base' := wt.heap.size) (Below.size (B := wt.heap.size) (w := wt) b_2)); clear hrc)
   | (go_at_call 136; (with_reducible refine (C_spec_BytesToInts _ _ (f_AppendName [] x.2.2.1) (Ty.rd_below b_2 (HRc.out.rd HBc.out.size)) (by have := HL3.out; simp only [List.length_nil] at this; omega)).mono ?_); rintro e wf ⟨vf, rfl, hrf, hbf⟩; have HBf := Lib.hid (show Below wt.heap.size wt wf from b_2); have HRf := Lib.hid (hrf.mono (base' := wt.heap.size) (Below.size (B := wt.heap.size) (w := wt) b_2)); clear hrf)
   | ((refine step_append_row b_35 _ _ 92 b_35 flatI WB.heap.size 3 infoI rfl Try.underlying92 _ _ (bti (f_AppendName [] x.1) ++ bti x.2.1) (bti (f_AppendName [] x.2.2.1)) b_35 b_35 (HRt.out.below b_2) (Ty.rd_below b_2 (HRf.out.rd HBf.out.size)) (by have := HLB.out; omega) (by have := HLB.out; unfold maxLen; omega) (Nat.le_trans hzw (Below.size (B := wt.heap.size) (w := wt) b_2)) ?_); intro vu wu hru hg'; have hne : some w.heap.size ≠ vt.ownBlock := fun e => (by have := (HRt.out.block _ e.symm).1; omega); have hzu : Below w.heap.size w wu ∧ wu.cell? ⟨w.heap.size, 0, none⟩ = some (.slice A0 (List.length x.1) c0) ∧ wu.cell? ⟨w.heap.size, 1, none⟩ = some (.slice A1 (List.length x.2.1) c1) ∧ wu.cell? ⟨w.heap.size, 2, none⟩ = some (.slice A2 (List.length x.2.2.1) c2) ∧ wu.cell? ⟨w.heap.size, 3, none⟩ = some (.int .i64 x.2.2.2.1) ∧ wu.cell? ⟨w.heap.size, 4, none⟩ = some (.int .i64 x.2.2.2.2) := ⟨bel_grown (B := w.heap.size) b_2 (Below.size (B := w.heap.size) (w := w) b_2) hg' (fun g hg => (by have := (HRt.out.block _ hg).1; omega)), hg'.cell (HS2.out _ b_2).2.1 hne, hg'.cell (HS2.out _ b_2).2.2.1 hne, hg'.cell (HS2.out _ b_2).2.2.2.1 hne, hg'.cell (HS2.out _ b_2).2.2.2.2.1 hne, hg'.cell (HS2.out _ b_2).2.2.2.2.2 hne⟩; (try (refine viaP (p := wu.cell? ⟨wt.heap.size, 0, none⟩ = some (.int .i64 x.2.2.2.1)) ?_ (fun HKT => ?_); (focus (refine hg'.cell (a := ⟨wt.heap.size, 0, none⟩) ?_ (fun e => (by have := (HRt.out.block (wt.heap.size) e.symm).2; skip; omega)); refine lit1_cell (w := wt) (te := 3) ?_ ?_; (focus (first | rfl | (simp only [World.size_alloc, World.size_drew]; done))); ((repeat' (first | (with_reducible exact Below.refl _ _) | (with_reducible assumption) | (with_reducible refine bel_set ?_ b_29 _) | (with_reducible refine bel_alloc ?_ _) | (with_reducible refine bel_drewN ?_ _) | (with_reducible refine bel_drew ?_) | (with_reducible refine bel_trans ?_ b_32))); done))); have HK0 := Lib.hid HKT; clear HKT)); (try (refine viaP (p := wu.cell? ⟨wt.heap.size + 1, 0, none⟩ = some (.int .i64 x.2.2.2.1)) ?_ (fun HKT => ?_); (focus (refine hg'.cell (a := ⟨wt.heap.size + 1, 0, none⟩) ?_ (fun e => (by have := (HRt.out.block (wt.heap.size + 1) e.symm).2; skip; omega)); refine lit1_cell (w := wt.alloc (.cells #[] 5)) (te := 3) ?_ ?_; (focus (first | rfl | (simp only [World.size_alloc, World.size_drew]; done))); ((repeat' (first | (with_reducible exact Below.refl _ _) | (with_reducible assumption) | (with_reducible refine bel_set ?_ b_29 _) | (with_reducible refine bel_alloc ?_ _) | (with_reducible refine bel_drewN ?_ _) | (with_reducible refine bel_drew ?_) | (with_reducible refine bel_trans ?_ b_32))); done))); have HK1 := Lib.hid HKT; clear HKT)); (try (refine viaP (p := wu.cell? ⟨wc.heap.size, 0, none⟩ = some (.int .i64 x.2.2.2.1)) ?_ (fun HKT => ?_); (focus (refine hg'.cell (a := ⟨wc.heap.size, 0, none⟩) ?_ (fun e => (by have := (HRt.out.block (wc.heap.size) e.symm).2; have := HBc.out.size; omega)); refine lit1_cell (w := wc) (te := 3) ?_ ?_; (focus (first | rfl | (simp only [World.size_alloc, World.size_drew]; done))); ((repeat' (first | (with_reducible exact Below.refl _ _) | (with_reducible assumption) | (with_reducible refine bel_set ?_ b_29 _) | (with_reducible refine bel_alloc ?_ _) | (with_reducible refine bel_drewN ?_ _) | (with_reducible refine bel_drew ?_) | (with_reducible refine bel_trans ?_ b_32))); done))); have HK2 := Lib.hid HKT; clear HKT)); (try (refine viaP (p := wu.cell? ⟨wf.heap.size, 0, none⟩ = some (.int .i64 x.2.2.2.1)) ?_ (fun HKT => ?_); (focus (refine hg'.cell (a := ⟨wf.heap.size, 0, none⟩) ?_ (fun e => (by have := (HRt.out.block (wf.heap.size) e.symm).2; have := HBf.out.size; omega)); refine lit1_cell (w := wf) (te := 3) ?_ ?_; (focus (first | rfl | (simp only [World.size_alloc, World.size_drew]; done))); ((repeat' (first | (with_reducible exact Below.refl _ _) | (with_reducible assumption) | (with_reducible refine bel_set ?_ b_29 _) | (with_reducible refine bel_alloc ?_ _) | (with_reducible refine bel_drewN ?_ _) | (with_reducible refine bel_drew ?_) | (with_reducible refine bel_trans ?_ b_32))); done))); have HK3 := Lib.hid HKT; clear HKT)); have hwu := hzu.1; have HRu := Lib.hid hru; clear hru; have hzz : WB.heap.size ≤ wu.heap.size := Nat.le_trans (Nat.le_trans hzw (Below.size (B := wt.heap.size) (w := wt) b_2)) hg'.size; have hzl : w.heap.size < wu.heap.size := World.block_lt_of_cell? wu _ hzu.2.1; have HS3 : Hid (∀ W, Below wu.heap.size wu W → Below w.heap.size w W ∧ W.cell? ⟨w.heap.size, 0, none⟩ = some (.slice A0 (List.length x.1) c0) ∧ W.cell? ⟨w.heap.size, 1, none⟩ = some (.slice A1 (List.length x.2.1) c1) ∧ W.cell? ⟨w.heap.size, 2, none⟩ = some (.slice A2 (List.length x.2.2.1) c2) ∧ W.cell? ⟨w.heap.size, 3, none⟩ = some (.int .i64 x.2.2.2.1) ∧ W.cell? ⟨w.heap.size, 4, none⟩ = some (.int .i64 x.2.2.2.2)) := (fun W hW => ⟨bel_trans hzu.1 hW, (hW.cell (p := ⟨w.heap.size, 0, none⟩) hzl).trans hzu.2.1, (hW.cell (p := ⟨w.heap.size, 1, none⟩) hzl).trans hzu.2.2.1, (hW.cell (p := ⟨w.heap.size, 2, none⟩) hzl).trans hzu.2.2.2.1, (hW.cell (p := ⟨w.heap.size, 3, none⟩) hzl).trans hzu.2.2.2.2.1, (hW.cell (p := ⟨w.heap.size, 4, none⟩) hzl).trans hzu.2.2.2.2.2⟩); clear hg' hne)
   | ((refine step_append_row b_35 _ _ 92 b_35 flatI WB.heap.size 3 infoI rfl Try.underlying92 _ _ ((bti (f_AppendName [] x.1) ++ bti x.2.1) ++ bti (f_AppendName [] x.2.2.1)) ([x.2.2.2.1]) b_35 b_35 (HRu.out.below b_2) (by first | exact rd_cell1 b3 HK0.out | exact rd_cell1 b3 HK1.out | exact rd_cell1 b3 HK2.out | exact rd_cell1 b3 HK3.out | (refine rd_lit1' (w := wu) (te := 3) (n := x.2.2.2.1) ?_ b3 ?_; (focus (first | rfl | (simp only [World.size_alloc, World.size_drew]; done))); ((repeat' (first | (with_reducible exact Below.refl _ _) | (with_reducible assumption) | (with_reducible refine bel_set ?_ b_29 _) | (with_reducible refine bel_alloc ?_ _) | (with_reducible refine bel_drewN ?_ _) | (with_reducible refine bel_drew ?_) | (with_reducible refine bel_trans ?_ b_32))); done)) | fail) (by have := HLB.out; rw [List.length_append, List.length_singleton]; omega) (by have := HLB.out; rw [List.length_append, List.length_singleton]; unfold maxLen; omega) (Nat.le_trans hzz (Below.size (B := wu.heap.size) (w := wu) b_2)) ?_); intro v' w' hr' hg'; have hne : some w.heap.size ≠ vu.ownBlock := fun e => (by have := (HRu.out.block _ e.symm).1; omega); have hz' : Below w.heap.size w w' ∧ w'.cell? ⟨w.heap.size, 0, none⟩ = some (.slice A0 (List.length x.1) c0) ∧ w'.cell? ⟨w.heap.size, 1, none⟩ = some (.slice A1 (List.length x.2.1) c1) ∧ w'.cell? ⟨w.heap.size, 2, none⟩ = some (.slice A2 (List.length x.2.2.1) c2) ∧ w'.cell? ⟨w.heap.size, 3, none⟩ = some (.int .i64 x.2.2.2.1) ∧ w'.cell? ⟨w.heap.size, 4, none⟩ = some (.int .i64 x.2.2.2.2) := ⟨bel_grown (B := w.heap.size) b_2 (Below.size (B := w.heap.size) (w := w) b_2) hg' (fun g hg => (by have := (HRu.out.block _ hg).1; omega)), hg'.cell (HS3.out _ b_2).2.1 hne, hg'.cell (HS3.out _ b_2).2.2.1 hne, hg'.cell (HS3.out _ b_2).2.2.2.1 hne, hg'.cell (HS3.out _ b_2).2.2.2.2.1 hne, hg'.cell (HS3.out _ b_2).2.2.2.2.2 hne⟩)
   | fail)
 all_goals (have HR' := Lib.hid hr')
 all_goals (clear hr')
 all_goals go_wp2
 all_goals go_ret
 all_goals exact ⟨_, rfl, by rw [HF.out]; exact HR'.out.mono b_34, hz'.1⟩
def signed (x : tData.D) (m : Int) : tData.D := (x.1, x.2.1, x.2.2.1, x.2.2.2.1, m)
def f_SignData (a : Int) (x : tData.D) : tData.D := signed x (mac a (f_SignedPortion x))
theorem mac_bd (a : Int) (l : List Int) : -9223372036854775808 ≤ mac a l ∧ mac a l ≤ 9223372036854775807 := by
 have := digest_le (a :: (l ++ [a]))
 unfold mac; omega
theorem ow_Data_parts {w : World} {cs : List Value} {x : tData.D} {fp : List Nat} (h : tData.ow w cs x fp) : ∃ (A0 : Option Addr) (c0 : Nat) (A1 : Option Addr) (c1 : Nat) (A2 : Option Addr) (c2 : Nat) (f0 f1 f2 : List Nat),
  cs = [.slice A0 (List.length x.1) c0, .slice A1 (List.length x.2.1) c1, .slice A2 (List.length x.2.2.1) c2, .int .i64 x.2.2.2.1, .int .i64 x.2.2.2.2] ∧ fp = (f0 ++ (f1 ++ (f2 ++ ([] ++ [])))) ∧
  (Ty.sl .str).ow w [.slice A0 (List.length x.1) c0] x.1 f0 ∧ (Ty.sl .byte).ow w [.slice A1 (List.length x.2.1) c1] x.2.1 f1 ∧ (Ty.sl .str).ow w [.slice A2 (List.length x.2.2.1) c2] x.2.2.1 f2 ∧
  (-9223372036854775808 ≤ x.2.2.2.1 ∧ x.2.2.2.1 ≤ 9223372036854775807) ∧ (-9223372036854775808 ≤ x.2.2.2.2 ∧ x.2.2.2.2 ≤ 9223372036854775807) := by
 obtain ⟨p0, r0, f0, q0, rfl, rfl, h0, p1, r1, f1, q1, rfl, rfl, h1, p2, r2, f2, q2, rfl, rfl, h2, p3, r3, f3, q3, rfl, rfl, ⟨⟨rfl, b3⟩, rfl⟩, ⟨⟨rfl, b4⟩, rfl⟩⟩ := h
 obtain ⟨A0, c0, rfl⟩ := Ty.ow_slv h0
 obtain ⟨A1, c1, rfl⟩ := Ty.ow_slv h1
 obtain ⟨A2, c2, rfl⟩ := Ty.ow_slv h2
 exact ⟨A0, c0, A1, c1, A2, c2, f0, f1, f2, rfl, rfl, h0, h1, h2, b3, b4⟩
theorem ow_signed {w : World} {x : tData.D} {A0 A1 A2 : Option Addr} {c0 c1 c2 : Nat} {fp : List Nat} {m : Int} (h : tData.ow w [.slice A0 (List.length x.1) c0, .slice A1 (List.length x.2.1) c1, .slice A2 (List.length x.2.2.1) c2, .int .i64 x.2.2.2.1, .int .i64 x.2.2.2.2] x fp) (hm : -9223372036854775808 ≤ m ∧ m ≤ 9223372036854775807) :
  tData.ow w [.slice A0 (List.length x.1) c0, .slice A1 (List.length x.2.1) c1, .slice A2 (List.length x.2.2.1) c2, .int .i64 x.2.2.2.1, .int .i64 m] (signed x m) fp := by
 obtain ⟨B0, d0, B1, d1, B2, d2, f0, f1, f2, he, rfl, h0, h1, h2, b3, b4⟩ := ow_Data_parts h
 simp only [List.cons.injEq, Value.slice.injEq, and_true, true_and] at he
 obtain ⟨⟨rfl, rfl⟩, ⟨rfl, rfl⟩, rfl, rfl⟩ := he
 exact ow_Data_mk (x := signed x m) h0 h1 h2 b3 hm
set_option maxRecDepth 100000 in
set_option maxHeartbeats 2000000 in
theorem C_spec_SignDataB (w : World) (a : Int) (cs : List Value) (x : tData.D) (h : tData.rd w cs x) (i0 : -9223372036854775808 ≤ a ∧ a ≤ 9223372036854775807) (s0 : Ty.bulk tData x ≤ 4000000) :
  Calls Try.prog 56 #[.int .i64 a, .agg cs.toArray] w (RetAgg w tData (f_SignData a x)) := by
 have h' := h
 obtain ⟨As0, cs0, As1, cs1, As2, cs2, rfl, sg0, sg1, sg2, sg3, sg4⟩ := rd_Data h
 have HMB := Lib.hid (mac_bd a (f_SignedPortion x))
 have HLS := Lib.hid (signed_lenB s0)
 have HF := Lib.hid (show f_SignData a x = signed x (mac a (f_SignedPortion x)) from rfl)
 go_enter Try.func56, Try.ntmps56
 go_wp2_with fail
 refine (C_spec_l8Copy _ _ x (Ty.rd_below b_6 h') b_34).mono ?_
 rintro e w0 ⟨cs0, fp0, rfl, how0, hfr0, hb0⟩
 obtain ⟨Ad0, cd0, Ad1, cd1, Ad2, cd2, rfl⟩ := ow_Data how0
 have hz0 := hb0.size
 simp only [World.size_alloc] at hz0
 have hw0 : Below w.heap.size w w0 := bel_trans b_6 hb0
 have hB0 : Blk w0 (w.heap.size) 46 #[.slice As0 (List.length x.1) cs0, .slice As1 (List.length x.2.1) cs1, .slice As2 (List.length x.2.2.1) cs2, .int .i64 x.2.2.2.1, .int .i64 x.2.2.2.2] := ((Blk.new w 46 #[.slice As0 (List.length x.1) cs0, .slice As1 (List.length x.2.1) cs1, .slice As2 (List.length x.2.2.1) cs2, .int .i64 x.2.2.2.1, .int .i64 x.2.2.2.2]).alloc _).below hb0 b_26
 have hR0 : Blk w0 (w.heap.size + 1) 46 #[.slice none 0 0, .slice none 0 0, .slice none 0 0, .int .i64 0, .int .i64 0] := (show Blk ((w.alloc (.cells #[.slice As0 (List.length x.1) cs0, .slice As1 (List.length x.2.1) cs1, .slice As2 (List.length x.2.2.1) cs2, .int .i64 x.2.2.2.1, .int .i64 x.2.2.2.2] 46)).alloc (.cells #[.slice none 0 0, .slice none 0 0, .slice none 0 0, .int .i64 0, .int .i64 0] 46)) (w.heap.size + 1) 46 #[.slice none 0 0, .slice none 0 0, .slice none 0 0, .int .i64 0, .int .i64 0] from by have := Blk.new (w.alloc (.cells #[.slice As0 (List.length x.1) cs0, .slice As1 (List.length x.2.1) cs1, .slice As2 (List.length x.2.2.1) cs2, .int .i64 x.2.2.2.1, .int .i64 x.2.2.2.2] 46)) 46 #[.slice none 0 0, .slice none 0 0, .slice none 0 0, .int .i64 0, .int .i64 0]; rwa [World.size_alloc] at this).below hb0 b_26
 obtain ⟨kB_0_0, kB_0_1, kB_0_2, kB_0_3, kB_0_4, -, -, -, -, -, zB_0⟩ := bk5 hB0
 go_wp2_with fail
 refine (C_spec_SignedPortionB _ _ x (Ty.rd_below (bel_alloc hw0 _) h') s0).mono ?_
 rintro e w1 ⟨v1, rfl, hr1, hb1⟩
 have hz1 := hb1.size
 simp only [World.size_alloc] at hz1
 have hw1 : Below w.heap.size w w1 := bel_trans (bel_alloc hw0 _) hb1
 have HR1 := Lib.hid (hr1.rd hb1.size)
 clear hr1
 clear kB_0_0 kB_0_1 kB_0_2 kB_0_3 kB_0_4
 have hR1 : Blk w1 (w.heap.size + 1) 46 #[.slice none 0 0, .slice none 0 0, .slice none 0 0, .int .i64 0, .int .i64 0] := (hR0.alloc _).below hb1 b_26
 have hO1 : Blk w1 w0.heap.size 46 #[.slice Ad0 (List.length x.1) cd0, .slice Ad1 (List.length x.2.1) cd1, .slice Ad2 (List.length x.2.2.1) cd2, .int .i64 x.2.2.2.1, .int .i64 x.2.2.2.2] := (Blk.new w0 46 #[.slice Ad0 (List.length x.1) cd0, .slice Ad1 (List.length x.2.1) cd1, .slice Ad2 (List.length x.2.2.1) cd2, .int .i64 x.2.2.2.1, .int .i64 x.2.2.2.2]).below hb1 b_26
 go_wp2_with fail
 refine (C_spec_ComputeMAC _ _ a (f_SignedPortion x) i0 HR1.out (Nat.le_trans HLS.out b_33)).mono ?_
 rintro e w2 ⟨rfl, hb2⟩
 have hz2 := hb2.size
 have hw2 : Below w.heap.size w w2 := bel_trans hw1 hb2
 have hR2 : Blk w2 (w.heap.size + 1) 46 #[.slice none 0 0, .slice none 0 0, .slice none 0 0, .int .i64 0, .int .i64 0] := hR1.below hb2 b_34
 have hO2 : Blk w2 w0.heap.size 46 #[.slice Ad0 (List.length x.1) cd0, .slice Ad1 (List.length x.2.1) cd1, .slice Ad2 (List.length x.2.2.1) cd2, .int .i64 x.2.2.2.1, .int .i64 x.2.2.2.2] := hO1.below hb2 b_34
 obtain ⟨kR_2_0, kR_2_1, kR_2_2, kR_2_3, kR_2_4, fR_2_0, fR_2_1, fR_2_2, fR_2_3, fR_2_4, zR_2⟩ := bk5 hR2
 obtain ⟨kO_2_0, kO_2_1, kO_2_2, kO_2_3, kO_2_4, fO_2_0, fO_2_1, fO_2_2, fO_2_3, fO_2_4, zO_2⟩ := bk5 hO2
 go_wp2
 refine bodyPost_ret (v := .agg #[.slice Ad0 (List.length x.1) cd0, .slice Ad1 (List.length x.2.1) cd1, .slice Ad2 (List.length x.2.2.1) cd2, .int .i64 x.2.2.2.1, .int .i64 (mac a (f_SignedPortion x))]) (by simp [results, Try.results56, go_sem, kR_2_0, fR_2_0, kR_2_1, fR_2_1, kR_2_2, fR_2_2, kR_2_3, fR_2_3, kR_2_4, fR_2_4, kO_2_0, fO_2_0, kO_2_1, fO_2_1, kO_2_2, fO_2_2, kO_2_3, fO_2_3, kO_2_4, fO_2_4]) rfl ?_
 rw [HF.out]
 exact ⟨_, fp0, rfl, ow_signed (Ty.ow_keep (by intro b hb'; have hb'' := (hfr0).2 b hb'; (try simp only [szz] at hb''); repeat (first | (with_reducible rfl) | (rw [Below.heap_setCell _ _ _ _ b_29]) | (rw [Below.heap_alloc _ _ _ b_20]) | (rw [hb2.block _ b_27]) | (rw [hb1.block _ b_27]))) how0) HMB.out, hfr0.mono b_26 b_27, b_6⟩
end Go.Proofs.Ytldgbnlcnlfmeaa
