/- Pending interests expire: the specification. Printed by gen43.py. -/
import Derived.Test.YtpjnidfdkggpfaaExp
namespace Go.Proofs.Ytpjnidfdkggpfaa
open Go.RowKit
set_option linter.unusedVariables false
set_option linter.unusedSimpArgs false

set_option maxRecDepth 100000 in
set_option maxHeartbeats 2000000 in
theorem C_spec_ExpirePending (w : World) (v : Value) (x : List (Ty.D tPendingInterest)) (now : Int) (h : (Ty.sl tPendingInterest).rd w [v] x) (s0 : Ty.bulk (.sl tPendingInterest) x ≤ 1048576) (i1 : -9223372036854775808 ≤ now ∧ now ≤ 9223372036854775807) :
    Calls Try.prog 11 #[v, .int .i64 now] w (RetSl w tPendingInterest (f_ExpirePending x now)) := by
  obtain ⟨A, c, rfl, hc, hm, hn⟩ := Ty.rd_sl h
  have hxl := Ty.bulk_len s0
  go_enter Try.func11, Try.ntmps11
  go_wp2
  go_loopw [5, 6] (fun l i wr => ∃ k : Nat, k ≤ x.length ∧ i = .int .i64 k ∧ DRow tPendingInterest wr w.heap.size 56 l (expK now (x.take k)) ∧ Below w.heap.size w wr) (fun _ i _ => x.length - (intOf i).toNat)
  case atStart => exact ⟨0, by omega, rfl, DRow.lit0 tPendingInterest w 56 (Nat.le_refl _), (by repeat' (first | (with_reducible exact Below.refl _ _) | (with_reducible assumption) | (with_reducible refine bel_set ?_ (by (try dsimp only); omega) _) | (with_reducible refine bel_alloc ?_ _) | (with_reducible refine bel_drewN ?_ _) | (with_reducible refine bel_drew ?_)))⟩
  case round =>
    obtain ⟨k, hk, rfl, hr, hb⟩ := hrel
    have HR := Lib.hid hr
    clear hr
    have hsz0 := hb.size
    by_cases hlt : k < x.length
    · have HL := Lib.hid (expK_len now x hk)
      obtain ⟨b, o, dsd, rfl, hld, hcelld, hrdd⟩ := Ty.rd_at (h) hlt
      have hrdd' := hrdd
      obtain ⟨Ad0, cd0, Ad1, cd1, rfl, dg0, dg1, dg2⟩ := rd_PendingInterest hrdd
      have e0 : w.cell? ⟨b, o + k * 3, none⟩ = some (.slice Ad0 (List.length x[k].1) cd0) := by simpa [Ty.sz] using hcelld 0 (by decide)
      have e1 : w.cell? ⟨b, o + k * 3 + 1, none⟩ = some (.slice Ad1 (List.length x[k].2.1) cd1) := by simpa [Ty.sz] using hcelld 1 (by decide)
      have e2 : w.cell? ⟨b, o + k * 3 + 2, none⟩ = some (.int .i64 x[k].2.2) := by simpa [Ty.sz] using hcelld 2 (by decide)
      clear hcelld hld
      have hbw : b < w.heap.size := World.block_lt_of_cell? w _ e0
      obtain ⟨hb1_, hb2_⟩ := pi_bulk (Ty.bulk_at s0 hlt)
      have hnl := Ty.bulk_len hb1_
      have hql := Ty.bulk_len hb2_
      obtain ⟨Y, hY⟩ : ∃ Y : List (Ty.D tRequester), Y = x[k].2.1 := ⟨_, rfl⟩
      rw [← hY] at e1 hql dg1
      have hex : expE now x[k] = (x[k].1, keepR (expired now) Y, x[k].2.2) := by rw [hY]; rfl
      have HEX0 := Lib.hid hex
      have HYY := Lib.hid hY
      clear hex hY hb1_ hb2_
      have HE : Hid (∀ V, Below w.heap.size w V → V.cell? ⟨b, o + k * 3, none⟩ = some (.slice Ad0 (List.length x[k].1) cd0) ∧ V.cell? ⟨b, o + k * 3 + 1, none⟩ = some (.slice Ad1 (List.length Y) cd1) ∧ V.cell? ⟨b, o + k * 3 + 2, none⟩ = some (.int .i64 x[k].2.2)) := fun V hV => ⟨(hV.cell (p := ⟨b, _, none⟩) hbw).trans e0, (hV.cell (p := ⟨b, _, none⟩) hbw).trans e1, (hV.cell (p := ⟨b, _, none⟩) hbw).trans e2⟩
      clear e0 e1 e2
      obtain ⟨wo, hwo⟩ : ∃ wo, wo = wr := ⟨_, rfl⟩
      subst hwo
      go_wp2
      go_loopw [7, 8] (fun a j wr => ∃ m : Nat, m ≤ Y.length ∧ j = .int .i64 m ∧ DRow tRequester wr wo.heap.size 58 a (keepR (expired now) (Y.take m)) ∧ Below wo.heap.size wo wr) (fun _ j _ => Y.length - (intOf j).toNat)
      case atStart => exact ⟨0, by omega, rfl, DRow.lit0 tRequester wo 58 (Nat.le_refl _), (by repeat' (first | (with_reducible exact Below.refl _ _) | (with_reducible assumption) | (with_reducible refine bel_set ?_ (by (try dsimp only); omega) _) | (with_reducible refine bel_alloc ?_ _) | (with_reducible refine bel_drewN ?_ _) | (with_reducible refine bel_drew ?_)))⟩
      case round =>
        obtain ⟨m, hml, rfl, hr, hbo⟩ := hrel
        have HA := Lib.hid hr
        clear hr
        have hbw2 : Below w.heap.size w wr := bel_trans hb hbo
        have hsz1 := hbo.size
        obtain ⟨e0, e1, e2⟩ := HE.out wr hbw2
        by_cases hlj : m < Y.length
        · have hkl := keepR_len (expired now) (Y.take m)
          rw [List.length_take] at hkl
          obtain ⟨b2, o2, dsf, rfl, hlf, hcellf, hrdf⟩ := Ty.rd_at (Ty.rd_below hbw2 dg1) hlj
          have hrdf' := hrdf
          obtain ⟨rfl, fg0, fg1, fg2⟩ := rd_Requester hrdf
          have f0 : wr.cell? ⟨b2, o2 + m * 3, none⟩ = some (.int .i64 Y[m].1) := by simpa [Ty.sz] using hcellf 0 (by decide)
          have f1 : wr.cell? ⟨b2, o2 + m * 3 + 1, none⟩ = some (.int .i64 Y[m].2.1) := by simpa [Ty.sz] using hcellf 1 (by decide)
          have f2 : wr.cell? ⟨b2, o2 + m * 3 + 2, none⟩ = some (.int .i64 Y[m].2.2) := by simpa [Ty.sz] using hcellf 2 (by decide)
          clear hcellf hlf
          have HO := Lib.hid (Ty.rd_ow_flat rfl hrdf')
          have HKL := Lib.hid hkl
          clear hrdf' hkl
          cases q3 : decide (now ≤ Y[m].2.2)
          · have HN := Lib.hid (keepR_no (p := expired now) hlj (by unfold expired; exact decide_eq_true (Int.not_le.1 (of_decide_eq_false q3))))
            go_wp2
            go_roundw
            case rel => exact ⟨m + 1, by omega, by go_num, by rw [HN.out]; exact HA.out, hbo⟩
            case measure => simp [intOf]; omega
          · have HY := Lib.hid (keepR_yes (p := expired now) hlj (by unfold expired; exact decide_eq_false (Int.not_lt.2 (of_decide_eq_true q3))))
            go_wp2_with (at_builtin; go_loud (refine wpList_append_drow (e := tRequester) rfl _ _ 54 rfl wr wo.heap.size 58 info_Requester rfl Try.underlying54 _ _ (keepR (expired now) (Y.take m)) [Y[m]] (by rfl) (by rfl) HA.out (by repeat' (first | (with_reducible exact Below.refl _ _) | (with_reducible assumption) | (with_reducible refine bel_set ?_ (by (try dsimp only); omega) _) | (with_reducible refine bel_alloc ?_ _) | (with_reducible refine bel_drewN ?_ _) | (with_reducible refine bel_drew ?_))) (Src.lit 58 HO.out (FrI.nil _ _)) (by have := HKL.out; rw [List.length_singleton]; omega) (by have := HKL.out; rw [List.length_singleton]; unfold maxLen; omega) hbo.size ?_))
            intro v' w' hr' hg'
            have hbn : Below wo.heap.size wo w' := grow_bel (w0 := wo) (by repeat' (first | (with_reducible exact Below.refl _ _) | (with_reducible assumption) | (with_reducible refine bel_set ?_ (by (try dsimp only); omega) _) | (with_reducible refine bel_alloc ?_ _) | (with_reducible refine bel_drewN ?_ _) | (with_reducible refine bel_drew ?_))) hg' (fun g hg => (HA.out.block g hg).1)
            have HR' := Lib.hid hr'
            clear hr' hg'
            go_wp2
            go_roundw
            case rel => exact ⟨m + 1, by omega, by go_num, by rw [HY.out]; exact HR'.out, hbn⟩
            case measure => simp [intOf]; omega
        · have hF1 : keepR (expired now) (Y.take m) = keepR (expired now) Y := by rw [List.take_of_length_le (by omega)]
          have hrl := keepR_len (expired now) Y
          obtain ⟨F, hF⟩ : ∃ F, F = keepR (expired now) Y := ⟨_, rfl⟩
          rw [← hF] at hrl hF1
          have hA := HA.out
          rw [hF1] at hA
          obtain ⟨A2, c2, fp2, hv2, how2, hfr2⟩ := hA.own
          subst hv2
          have HEX := Lib.hid (show expE now x[k] = (x[k].1, F, x[k].2.2) from by rw [HEX0.out, hF])
          have HFF := Lib.hid (show keepR (expired now) x[k].2.1 = F from by rw [← HYY.out, hF])
          have HQ := Lib.hid how2
          have HFQ := Lib.hid hfr2
          clear hF hF1 hA how2 hfr2 HA
          by_cases hF0 : F.length = 0
          · have HY := Lib.hid (expK_no (now := now) hlt (by rw [HFF.out]; exact hF0))
            have q3 : decide ((0 : Int) < (F.length : Int)) = false := by rw [hF0]; rfl
            have hF0' : ¬ 0 < F.length := by omega
            go_wp2
            go_roundw
            case rel => exact ⟨k + 1, by omega, by go_num, by rw [HY.out]; exact HR.out.below hbo, hbw2⟩
            case measure => simp [intOf]; omega
          · have HY := Lib.hid (expK_yes (now := now) hlt (by rw [HFF.out]; omega))
            have hFp : 0 < F.length := by omega
            have q3 : decide ((0 : Int) < (F.length : Int)) = true := by simp; omega
            clear hF0
            go_wp2_with fail
            refine (C_spec_l4Copy _ _ x[k].1 (Ty.rd_below hbw2 dg0) (by omega)).mono ?_
            rintro e w1 ⟨cs1, fp1, rfl, how1, hfr1, hb1⟩
            obtain ⟨A1, c1, rfl⟩ := Ty.ow_slv how1
            have hz1 := hb1.size
            clear e0 e1 e2
            have kb0_0 : (w1.alloc (.cells #[.slice A1 (List.length x[k].1) c1] 44)).cell? ⟨w1.heap.size, 0, none⟩ = some (.slice A1 (List.length x[k].1) c1) := (cell_new w1 _ _ 0 (by first | rfl | simp only [World.size_alloc]))
            have hve : Below w1.heap.size w1 (w1.alloc (.cells #[.slice A1 (List.length x[k].1) c1] 44)) := (by repeat' (first | (with_reducible exact Below.refl _ _) | (with_reducible assumption) | (with_reducible refine bel_set ?_ (by (try dsimp only); omega) _) | (with_reducible refine bel_alloc ?_ _) | (with_reducible refine bel_drewN ?_ _) | (with_reducible refine bel_drew ?_)))
            have ze0 := Lib.hid (show (w1.alloc (.cells #[.slice A1 (List.length x[k].1) c1] 44)).heap.size = w1.heap.size + 1 from by simp only [World.size_alloc])
            have ze : w1.heap.size < (w1.alloc (.cells #[.slice A1 (List.length x[k].1) c1] 44)).heap.size := by simp only [World.size_alloc]; omega
            have hE0 : Blk (w1.alloc (.cells #[.slice A1 (List.length x[k].1) c1] 44)) w1.heap.size 44 #[.slice A1 (List.length x[k].1) c1] := Blk.new _ _ _
            go_wp2_with fail
            generalize (w1.alloc (.cells #[.slice A1 (List.length x[k].1) c1] 44)) = WE at kb0_0 hve ze ze0 hE0 ⊢
            have hE := hE0
            clear hE0 kb0_0
            have hv0 : Below WE.heap.size WE WE := Below.refl _ _
            have HH : Hid (∀ V, Below WE.heap.size WE V → Below w.heap.size w V ∧ V.cell? ⟨w1.heap.size, 0, none⟩ = some (.slice A1 (List.length x[k].1) c1) ∧ V.cell? ⟨b, o + k * 3 + 2, none⟩ = some (.int .i64 x[k].2.2)) := fun V hV => ⟨bel_trans hbw2 (bel_trans hb1 (bel_trans hve hV)), (hE.below hV hE.lt).cell 0, (HE.out V (bel_trans hbw2 (bel_trans hb1 (bel_trans hve hV)))).2.2⟩
            refine wp_region_noPanic ?_
            refine wp_region_held_drew (S := (fun W => Below w.heap.size w W ∧ W.cell? ⟨w1.heap.size, 0, none⟩ = some (.slice A1 (List.length x[k].1) c1) ∧ W.cell? ⟨b, o + k * 3 + 2, none⟩ = some (.int .i64 x[k].2.2))) (by kernel_rfl) ?_ (fun hHeld => ?_)
            · exact HH.out _ (by (repeat' (first | (with_reducible exact Below.refl _ _) | (with_reducible assumption) | (with_reducible refine bel_set ?_ (by (try dsimp only); omega) _) | (with_reducible refine bel_alloc ?_ _) | (with_reducible refine bel_drewN ?_ _) | (with_reducible refine bel_drew ?_) | (with_reducible refine bel_trans ?_ (by assumption)))); done)
            refine tk 0 (opN rfl) (by kernel_rfl) (by rfl) (by (intro w hSw; (try dsimp only at hSw); go_simp; first | done | with_reducible rfl)) (by assumption) ?_
            try simp only [Act.put, List.setIfInBounds_toArray, List.set_cons_zero, List.set_cons_succ]
            refine tk 1 (opN rfl) (by kernel_rfl) (by rfl) (by (intro w hSw; (try dsimp only at hSw); go_simp; first | done | with_reducible rfl)) (by assumption) ?_
            try simp only [Act.put, List.setIfInBounds_toArray, List.set_cons_zero, List.set_cons_succ]
            refine tk 2 (opN rfl) (by kernel_rfl) (by rfl) (by (intro w hSw; (try dsimp only at hSw); go_simp; first | done | with_reducible rfl)) (by assumption) ?_
            try simp only [Act.put, List.setIfInBounds_toArray, List.set_cons_zero, List.set_cons_succ]
            refine tk 3 (opN rfl) (by kernel_rfl) (by rfl) (by (intro w hSw; (try dsimp only at hSw); go_simp; first | done | with_reducible rfl)) (by assumption) ?_
            try simp only [Act.put, List.setIfInBounds_toArray, List.set_cons_zero, List.set_cons_succ]
            refine tk 4 (opN rfl) (by kernel_rfl) (by rfl) (by (intro w hSw; (try dsimp only at hSw); go_simp; first | done | with_reducible rfl)) (by assumption) ?_
            try simp only [Act.put, List.setIfInBounds_toArray, List.set_cons_zero, List.set_cons_succ]
            refine tk 5 (opN rfl) (by kernel_rfl) (by rfl) (by (intro w hSw; (try dsimp only at hSw); go_simp; first | done | with_reducible rfl)) (by assumption) ?_
            try simp only [Act.put, List.setIfInBounds_toArray, List.set_cons_zero, List.set_cons_succ]
            refine tk 6 (opN rfl) (by kernel_rfl) (by rfl) (by (intro w hSw; (try dsimp only at hSw); go_simp; first | done | with_reducible rfl)) (by assumption) ?_
            try simp only [Act.put, List.setIfInBounds_toArray, List.set_cons_zero, List.set_cons_succ]
            refine tk 7 (opN rfl) (by kernel_rfl) (by rfl) (by (intro w hSw; (try dsimp only at hSw); go_simp; first | done | with_reducible rfl)) (by assumption) ?_
            try simp only [Act.put, List.setIfInBounds_toArray, List.set_cons_zero, List.set_cons_succ]
            refine tk 8 (opN rfl) (by kernel_rfl) (by rfl) (by (intro w hSw; (try dsimp only at hSw); go_simp; first | done | with_reducible rfl)) (by assumption) ?_
            try simp only [Act.put, List.setIfInBounds_toArray, List.set_cons_zero, List.set_cons_succ]
            refine wpAnyH_ready (rs := [9]) (by kernel_rfl) (by simp) ?_
            refine (AllReadyH.cons (opN rfl) (fun K hK => ?_) AllReadyH.nil)
            go_simp
            refine hK.out _ _ ?_ (fun hHeld => ?_)
            · (try dsimp only)
              exact HH.out _ (by (repeat' (first | (with_reducible exact Below.refl _ _) | (with_reducible assumption) | (with_reducible refine bel_set ?_ (by (try dsimp only); omega) _) | (with_reducible refine bel_alloc ?_ _) | (with_reducible refine bel_drewN ?_ _) | (with_reducible refine bel_drew ?_) | (with_reducible refine bel_trans ?_ (by assumption)))); done)
            clear hK K
            try simp only [Act.put, List.setIfInBounds_toArray, List.set_cons_zero, List.set_cons_succ]
            refine wpAnyH_ready (rs := [10]) (by kernel_rfl) (by simp) ?_
            refine (AllReadyH.cons (opN rfl) (fun K hK => ?_) AllReadyH.nil)
            refine step_append_drow (by rfl) _ _ 31 (by rfl) wo w.heap.size 56 info_PendingInterest rfl Try.underlying31 _ _ (expK now (x.take k)) [(x[k].1, F, x[k].2.2)] (by rfl) (by rfl) HR.out (bel_trans hbo (bel_trans hb1 (bel_trans hve (by (repeat' (first | (with_reducible exact Below.refl _ _) | (with_reducible assumption) | (with_reducible refine bel_set ?_ (by (try dsimp only); omega) _) | (with_reducible refine bel_alloc ?_ _) | (with_reducible refine bel_drewN ?_ _) | (with_reducible refine bel_drew ?_) | (with_reducible refine bel_trans ?_ (by assumption)))); done)))) (Src.litE 56 (ow_PImk (x := (x[k].1, F, x[k].2.2)) (Ty.ow_bel (bel_trans hve (by (repeat' (first | (with_reducible exact Below.refl _ _) | (with_reducible assumption) | (with_reducible refine bel_set ?_ (by (try dsimp only); omega) _) | (with_reducible refine bel_alloc ?_ _) | (with_reducible refine bel_drewN ?_ _) | (with_reducible refine bel_drew ?_) | (with_reducible refine bel_trans ?_ (by assumption)))); done)) how1) (Ty.ow_bel (bel_trans hb1 (bel_trans hve (by (repeat' (first | (with_reducible exact Below.refl _ _) | (with_reducible assumption) | (with_reducible refine bel_set ?_ (by (try dsimp only); omega) _) | (with_reducible refine bel_alloc ?_ _) | (with_reducible refine bel_drewN ?_ _) | (with_reducible refine bel_drew ?_) | (with_reducible refine bel_trans ?_ (by assumption)))); done))) HQ.out) dg2) (FrI.app2 (m := wr.heap.size) (hfr1.mono (Nat.le_refl _) (by have := hve.size; (try simp only [World.size_drew, size_drewN]); omega)) (by rw [List.append_nil]; exact HFQ.out) (by omega) (by have := hve.size; (try simp only [World.size_drew, size_drewN]); omega)) (by first | rfl | simp only [World.size_alloc])) (by have := HL.out; rw [List.length_singleton]; omega) (by have := HL.out; rw [List.length_singleton]; unfold maxLen; omega) hb.size ?_
            intro v' w' hr' hg'
            have hbn : Below w.heap.size w w' := grow_bel (bel_trans hb (bel_trans hbo (bel_trans hb1 (bel_trans hve (by (repeat' (first | (with_reducible exact Below.refl _ _) | (with_reducible assumption) | (with_reducible refine bel_set ?_ (by (try dsimp only); omega) _) | (with_reducible refine bel_alloc ?_ _) | (with_reducible refine bel_drewN ?_ _) | (with_reducible refine bel_drew ?_) | (with_reducible refine bel_trans ?_ (by assumption)))); done))))) hg' (fun g hg => (HR.out.block g hg).1)
            have hEn := grow_blk (w0 := WE) (by (repeat' (first | (with_reducible exact Below.refl _ _) | (with_reducible assumption) | (with_reducible refine bel_set ?_ (by (try dsimp only); omega) _) | (with_reducible refine bel_alloc ?_ _) | (with_reducible refine bel_drewN ?_ _) | (with_reducible refine bel_drew ?_) | (with_reducible refine bel_trans ?_ (by assumption)))); done) hg' hE (fun e => by have := (HR.out.block _ e.symm).2; omega)
            refine hK.out _ _ ?_ (fun hHeld => ?_)
            · (try dsimp only)
              exact ⟨hbn, hEn.cell 0, (HE.out _ hbn).2.2⟩
            clear hK K
            try simp only [Act.put, List.setIfInBounds_toArray, List.set_cons_zero, List.set_cons_succ]
            refine tk 11 (opN rfl) (by kernel_rfl) (by rfl) (by (intro w hSw; (try dsimp only at hSw); go_simp; first | done | with_reducible rfl)) (by assumption) ?_
            try simp only [Act.put, List.setIfInBounds_toArray, List.set_cons_zero, List.set_cons_succ]
            refine wpAnyH_done (by kernel_rfl) ?_ _
            refine NoPanic.normal ?_
            have HR' := Lib.hid hr'
            clear hr' hg'
            go_wp2
            go_roundw
            case rel => exact ⟨k + 1, by omega, by go_num, by rw [HY.out, HEX.out]; exact HR'.out, hbn⟩
            case measure => simp [intOf]; omega
    · have HE : Hid (expK now (x.take k) = f_ExpirePending x now) := by unfold Hid f_ExpirePending; rw [List.take_of_length_le (by omega)]
      obtain ⟨A9, c9, fp9, hv9, how9, hfr9⟩ := HR.out.own
      subst hv9
      go_wp2
      go_ret
      rw [← HE.out]
      exact ⟨A9, c9, fp9, rfl, how9, hfr9, hb⟩
end Go.Proofs.Ytpjnidfdkggpfaa
