/- The law FnExactIssueCertificate, walked out of the contracts. Printed by a program. -/
import Derived.Test.YtamodpeeocmneaaIss
import Derived.Deep.RegionHeld3
import Derived.Deep.DeepCutAuto
namespace Go.Proofs.Ytamodpeeocmneaa
open Go.RowKit
set_option linter.unusedVariables false
set_option linter.unusedSimpArgs false

set_option maxRecDepth 100000 in
set_option maxHeartbeats 2000000 in
theorem L_IssueCertificate (w : World) (v0 : Value) (x0 : Ty.D (.sl tKey)) (h0 : Ty.rd w (.sl tKey) [v0] x0) (cs1 : List Value) (x1 : Ty.D (.sl .str)) (h1 : Ty.rd w (.sl .str) cs1 x1) (cs2 : List Value) (x2 : Ty.D (.sl .str)) (h2 : Ty.rd w (.sl .str) cs2 x2) (a3 : Int) (i3 : -9223372036854775808 ≤ a3 ∧ a3 ≤ 9223372036854775807) :
    Calls Try.prog 7 #[v0, .agg cs1.toArray, .agg cs2.toArray, .int .i64 a3] w (RetB w true) := by
  obtain ⟨A10, c10, rfl⟩ := Ty.rd_slv h1
  obtain ⟨A20, c20, rfl⟩ := Ty.rd_slv h2
  go_enter Try.func7, Try.ntmps7
  go_wp2_with fail
  refine (C_laws_szKeyS _ _ x0 1048576 (Ty.rd_below (by repeat' (first | (with_reducible exact Below.refl _ _) | (with_reducible assumption) | (with_reducible refine bel_set ?_ (by (try dsimp only); omega) _) | (with_reducible refine bel_alloc ?_ _) | (with_reducible refine bel_drewN ?_ _) | (with_reducible refine bel_drew ?_))) h0) (by omega) (by omega)).mono ?_
  rintro e w1 ⟨r1, rfl, hr1, hb1⟩
  have st1 : Below w.heap.size w w1 := bel_trans (by repeat' (first | (with_reducible exact Below.refl _ _) | (with_reducible assumption) | (with_reducible refine bel_set ?_ (by (try dsimp only); omega) _) | (with_reducible refine bel_alloc ?_ _) | (with_reducible refine bel_drewN ?_ _) | (with_reducible refine bel_drew ?_))) hb1
  have zz1 : w.heap.size + 2 ≤ w1.heap.size := by have := hb1.size; (try simp only [World.size_alloc] at this); omega
  have vw_1 : Below w.heap.size w w1 := st1
  have za1_1 : w.heap.size < w1.heap.size := by omega
  have ea1_0_1 : w1.cell? ⟨w.heap.size, 0, none⟩ = some (.slice A10 (List.length x1) c10) := (hb1.cell (by (try simp only [World.size_alloc]); (try dsimp only); omega)).trans ((World.cell?_alloc_lt _ _ _ (by (try simp only [World.size_alloc]); (try dsimp only); omega)).trans ((cell_new w 24 #[.slice A10 (List.length x1) c10] 0 (by first | rfl | (simp only [World.size_alloc]))) : _ = some (Value.slice A10 (List.length x1) c10)))
  have za2_1 : w.heap.size + 1 < w1.heap.size := by omega
  have ea2_0_1 : w1.cell? ⟨w.heap.size + 1, 0, none⟩ = some (.slice A20 (List.length x2) c20) := (hb1.cell (by (try simp only [World.size_alloc]); (try dsimp only); omega)).trans ((cell_new (w.alloc (.cells #[.slice A10 (List.length x1) c10] 24)) 24 #[.slice A20 (List.length x2) c20] 0 (by first | rfl | (simp only [World.size_alloc]))) : _ = some (Value.slice A20 (List.length x2) c20))
  rcases hr1 with rfl | ⟨p1, q1⟩
  · go_wp2
    go_ret
    exact ⟨rfl, vw_1⟩
  go_wp2_with fail
  refine (C_laws_szName _ _ x1 r1 (Ty.rd_below (by repeat' (first | (with_reducible exact Below.refl _ _) | (with_reducible assumption) | (with_reducible refine bel_set ?_ (by (try dsimp only); omega) _) | (with_reducible refine bel_alloc ?_ _) | (with_reducible refine bel_drewN ?_ _) | (with_reducible refine bel_drew ?_))) h1) p1 (by omega)).mono ?_
  rintro e w2 ⟨r2, rfl, hr2, hb2⟩
  have st2 : Below w1.heap.size w1 w2 := bel_trans (by repeat' (first | (with_reducible exact Below.refl _ _) | (with_reducible assumption) | (with_reducible refine bel_set ?_ (by (try dsimp only); omega) _) | (with_reducible refine bel_alloc ?_ _) | (with_reducible refine bel_drewN ?_ _) | (with_reducible refine bel_drew ?_))) hb2
  have zz2 : w1.heap.size + 0 ≤ w2.heap.size := by have := hb2.size; (try simp only [World.size_alloc] at this); omega
  have vw_2 : Below w.heap.size w w2 := bel_trans vw_1 st2
  have za1_2 : w.heap.size < w2.heap.size := by omega
  have ea1_0_2 : w2.cell? ⟨w.heap.size, 0, none⟩ = some (.slice A10 (List.length x1) c10) := (hb2.cell (by (try simp only [World.size_alloc]); (try dsimp only); omega)).trans ea1_0_1
  have za2_2 : w.heap.size + 1 < w2.heap.size := by omega
  have ea2_0_2 : w2.cell? ⟨w.heap.size + 1, 0, none⟩ = some (.slice A20 (List.length x2) c20) := (hb2.cell (by (try simp only [World.size_alloc]); (try dsimp only); omega)).trans ea2_0_1
  clear ea1_0_1 ea2_0_1
  rcases hr2 with rfl | ⟨p2, q2⟩
  · go_wp2
    go_ret
    exact ⟨rfl, vw_2⟩
  go_wp2_with fail
  refine (C_laws_szName _ _ x2 r2 (Ty.rd_below (by repeat' (first | (with_reducible exact Below.refl _ _) | (with_reducible assumption) | (with_reducible refine bel_set ?_ (by (try dsimp only); omega) _) | (with_reducible refine bel_alloc ?_ _) | (with_reducible refine bel_drewN ?_ _) | (with_reducible refine bel_drew ?_))) h2) p2 (by omega)).mono ?_
  rintro e w3 ⟨r3, rfl, hr3, hb3⟩
  have st3 : Below w2.heap.size w2 w3 := bel_trans (by repeat' (first | (with_reducible exact Below.refl _ _) | (with_reducible assumption) | (with_reducible refine bel_set ?_ (by (try dsimp only); omega) _) | (with_reducible refine bel_alloc ?_ _) | (with_reducible refine bel_drewN ?_ _) | (with_reducible refine bel_drew ?_))) hb3
  have zz3 : w2.heap.size + 0 ≤ w3.heap.size := by have := hb3.size; (try simp only [World.size_alloc] at this); omega
  have vw_3 : Below w.heap.size w w3 := bel_trans vw_2 st3
  have za1_3 : w.heap.size < w3.heap.size := by omega
  have ea1_0_3 : w3.cell? ⟨w.heap.size, 0, none⟩ = some (.slice A10 (List.length x1) c10) := (hb3.cell (by (try simp only [World.size_alloc]); (try dsimp only); omega)).trans ea1_0_2
  have za2_3 : w.heap.size + 1 < w3.heap.size := by omega
  have ea2_0_3 : w3.cell? ⟨w.heap.size + 1, 0, none⟩ = some (.slice A20 (List.length x2) c20) := (hb3.cell (by (try simp only [World.size_alloc]); (try dsimp only); omega)).trans ea2_0_2
  clear ea1_0_2 ea2_0_2
  rcases hr3 with rfl | ⟨p3, q3⟩
  · go_wp2
    go_ret
    exact ⟨rfl, vw_3⟩
  have s0 : Ty.bulk (.sl tKey) x0 ≤ 1048576 := by omega
  have s1 : Ty.bulk (.sl .str) x1 ≤ 1048576 := by omega
  have s2 : Ty.bulk (.sl .str) x2 ≤ 1048576 := by omega
  have HSp : Hid (∀ W, Below w3.heap.size w3 W → Below w3.heap.size w3 W ∧ W.cell? ⟨w.heap.size, 0, none⟩ = some (.slice A10 (List.length x1) c10) ∧ W.cell? ⟨w.heap.size + 1, 0, none⟩ = some (.slice A20 (List.length x2) c20)) := fun W hW => ⟨hW, (hW.cell za1_3).trans ea1_0_3, (hW.cell za2_3).trans ea2_0_3⟩
  have hvp : Below w3.heap.size w3 w3 := Below.refl _ _
  go_upto_region 11 with fail
  go_cut [10, 11] (fun sp sq wx => ∃ (g : Nat) (Apq0 : Option Addr) (cpq0 : Nat) (Apq1 : Option Addr) (cpq1 : Nat) (Apq2 : Option Addr) (cpq2 : Nat) (fp : List Nat), sp = .pointer (some ⟨g, 0, none⟩) ∧ sq = .bool ((f1_IssueCertificate x0 x1 x2 a3)) ∧ Blk wx g 31 #[.slice Apq0 (List.length (f0_IssueCertificate x0 x1 x2 a3).1) cpq0, .slice Apq1 (List.length (f0_IssueCertificate x0 x1 x2 a3).2.1) cpq1, .slice Apq2 (List.length (f0_IssueCertificate x0 x1 x2 a3).2.2.1) cpq2, .int .i64 (f0_IssueCertificate x0 x1 x2 a3).2.2.2.1, .int .i64 (f0_IssueCertificate x0 x1 x2 a3).2.2.2.2] ∧ Ty.ow wx tData [.slice Apq0 (List.length (f0_IssueCertificate x0 x1 x2 a3).1) cpq0, .slice Apq1 (List.length (f0_IssueCertificate x0 x1 x2 a3).2.1) cpq1, .slice Apq2 (List.length (f0_IssueCertificate x0 x1 x2 a3).2.2.1) cpq2, .int .i64 (f0_IssueCertificate x0 x1 x2 a3).2.2.2.1, .int .i64 (f0_IssueCertificate x0 x1 x2 a3).2.2.2.2] (f0_IssueCertificate x0 x1 x2 a3) fp ∧ FrI w3.heap.size wx.heap.size fp ∧ Below w3.heap.size w3 wx)
  case first =>
    go_wp2_with fail
    refine wp_region_noPanic ?_
    refine wp_region_held_drew (S := fun W => Below w3.heap.size w3 W ∧ W.cell? ⟨w.heap.size, 0, none⟩ = some (.slice A10 (List.length x1) c10) ∧ W.cell? ⟨w.heap.size + 1, 0, none⟩ = some (.slice A20 (List.length x2) c20)) (by kernel_rfl) ?_ (fun hHeld => ?_)
    · exact HSp.out _ (by (repeat' (first | (with_reducible exact Below.refl _ _) | (with_reducible assumption) | (with_reducible refine bel_set ?_ (by (try dsimp only); omega) _) | (with_reducible refine bel_alloc ?_ _) | (with_reducible refine bel_drewN ?_ _) | (with_reducible refine bel_drew ?_) | (with_reducible refine bel_trans ?_ (by assumption)))); done)
    refine tk 0 (opN rfl) (by kernel_rfl) (by rfl) (by (intro w hSw; (try dsimp only at hSw); go_simp; first | done | with_reducible rfl)) (by assumption) ?_
    try simp only [Act.put, List.setIfInBounds_toArray, List.set_cons_zero, List.set_cons_succ]
    refine tk 2 (opN rfl) (by kernel_rfl) (by rfl) (by (intro w hSw; (try dsimp only at hSw); go_simp; first | done | with_reducible rfl)) (by assumption) ?_
    try simp only [Act.put, List.setIfInBounds_toArray, List.set_cons_zero, List.set_cons_succ]
    refine tk 4 (opN rfl) (by kernel_rfl) (by rfl) (by (intro w hSw; (try dsimp only at hSw); go_simp; first | done | with_reducible rfl)) (by assumption) ?_
    try simp only [Act.put, List.setIfInBounds_toArray, List.set_cons_zero, List.set_cons_succ]
    refine tk 6 (opN rfl) (by kernel_rfl) (by rfl) (by (intro w hSw; (try dsimp only at hSw); go_simp; first | done | with_reducible rfl)) (by assumption) ?_
    try simp only [Act.put, List.setIfInBounds_toArray, List.set_cons_zero, List.set_cons_succ]
    refine wpAnyH_ready (rs := [1, 11]) (by kernel_rfl) (by simp) ?_
    refine (AllReadyH.cons (opN rfl) (fun K hK => ?_) (AllReadyH.cons (opN rfl) (fun K hK => ?_) AllReadyH.nil))
    · go_simp
      go_at_call 24
      refine (C_laws_toKeyS _ _ x0 (Ty.rd_below (by (repeat' (first | (with_reducible exact Below.refl _ _) | (with_reducible assumption) | (with_reducible refine bel_set ?_ (by (try dsimp only); omega) _) | (with_reducible refine bel_alloc ?_ _) | (with_reducible refine bel_drewN ?_ _) | (with_reducible refine bel_drew ?_) | (with_reducible refine bel_trans ?_ (by assumption)))); done) h0) s0).mono ?_
      rintro e wp0 ⟨Ap0, cp0, fpp0, rfl, howp0, hfrp0, hbp0⟩
      have hzp0 := hbp0.size
      try simp only [World.size_alloc, World.size_drew, size_drewN] at hzp0
      refine hK.out _ _ ?_ (fun hHeld => ?_)
      · (try dsimp only)
        exact HSp.out _ (by (repeat' (first | (with_reducible exact Below.refl _ _) | (with_reducible assumption) | (with_reducible refine bel_set ?_ (by (try dsimp only); omega) _) | (with_reducible refine bel_alloc ?_ _) | (with_reducible refine bel_drewN ?_ _) | (with_reducible refine bel_drew ?_) | (with_reducible refine bel_trans ?_ (by assumption)))); done)
      clear hK K
      try simp only [Act.put, List.setIfInBounds_toArray, List.set_cons_zero, List.set_cons_succ]
      refine wpAnyH_ready (rs := [3, 11]) (by kernel_rfl) (by simp) ?_
      refine (AllReadyH.cons (opN rfl) (fun K hK => ?_) (AllReadyH.cons (opN rfl) (fun K hK => ?_) AllReadyH.nil))
      · go_simp
        go_at_call 35
        refine (C_laws_toName _ _ x1 (Ty.rd_below (by (repeat' (first | (with_reducible exact Below.refl _ _) | (with_reducible assumption) | (with_reducible refine bel_set ?_ (by (try dsimp only); omega) _) | (with_reducible refine bel_alloc ?_ _) | (with_reducible refine bel_drewN ?_ _) | (with_reducible refine bel_drew ?_) | (with_reducible refine bel_trans ?_ (by assumption)))); done) h1) s1).mono ?_
        rintro e wp1 ⟨csp1, fpp1, rfl, howp1, hfrp1, hbp1⟩
        have hzp1 := hbp1.size
        try simp only [World.size_alloc, World.size_drew, size_drewN] at hzp1
        refine hK.out _ _ ?_ (fun hHeld => ?_)
        · (try dsimp only)
          exact HSp.out _ (by (repeat' (first | (with_reducible exact Below.refl _ _) | (with_reducible assumption) | (with_reducible refine bel_set ?_ (by (try dsimp only); omega) _) | (with_reducible refine bel_alloc ?_ _) | (with_reducible refine bel_drewN ?_ _) | (with_reducible refine bel_drew ?_) | (with_reducible refine bel_trans ?_ (by assumption)))); done)
        clear hK K
        try simp only [Act.put, List.setIfInBounds_toArray, List.set_cons_zero, List.set_cons_succ]
        refine wpAnyH_ready (rs := [5, 11]) (by kernel_rfl) (by simp) ?_
        refine (AllReadyH.cons (opN rfl) (fun K hK => ?_) (AllReadyH.cons (opN rfl) (fun K hK => ?_) AllReadyH.nil))
        · go_simp
          go_at_call 35
          refine (C_laws_toName _ _ x2 (Ty.rd_below (by (repeat' (first | (with_reducible exact Below.refl _ _) | (with_reducible assumption) | (with_reducible refine bel_set ?_ (by (try dsimp only); omega) _) | (with_reducible refine bel_alloc ?_ _) | (with_reducible refine bel_drewN ?_ _) | (with_reducible refine bel_drew ?_) | (with_reducible refine bel_trans ?_ (by assumption)))); done) h2) s2).mono ?_
          rintro e wp2 ⟨csp2, fpp2, rfl, howp2, hfrp2, hbp2⟩
          have hzp2 := hbp2.size
          try simp only [World.size_alloc, World.size_drew, size_drewN] at hzp2
          refine hK.out _ _ ?_ (fun hHeld => ?_)
          · (try dsimp only)
            exact HSp.out _ (by (repeat' (first | (with_reducible exact Below.refl _ _) | (with_reducible assumption) | (with_reducible refine bel_set ?_ (by (try dsimp only); omega) _) | (with_reducible refine bel_alloc ?_ _) | (with_reducible refine bel_drewN ?_ _) | (with_reducible refine bel_drew ?_) | (with_reducible refine bel_trans ?_ (by assumption)))); done)
          clear hK K
          try simp only [Act.put, List.setIfInBounds_toArray, List.set_cons_zero, List.set_cons_succ]
          refine wpAnyH_ready (rs := [7, 11]) (by kernel_rfl) (by simp) ?_
          refine (AllReadyH.cons (opN rfl) (fun K hK => ?_) (AllReadyH.cons (opN rfl) (fun K hK => ?_) AllReadyH.nil))
          · go_simp
            go_at_call 42
            refine (C_spec_IssueCertificate _ _ x0 _ x1 _ x2 a3 (Ty.rd_below (by (repeat' (first | (with_reducible exact Below.refl _ _) | (with_reducible assumption) | (with_reducible refine bel_set ?_ (by (try dsimp only); omega) _) | (with_reducible refine bel_alloc ?_ _) | (with_reducible refine bel_drewN ?_ _) | (with_reducible refine bel_drew ?_) | (with_reducible refine bel_trans ?_ (by assumption)))); done) (Ty.ow_rd howp0)) (Ty.rd_below (by (repeat' (first | (with_reducible exact Below.refl _ _) | (with_reducible assumption) | (with_reducible refine bel_set ?_ (by (try dsimp only); omega) _) | (with_reducible refine bel_alloc ?_ _) | (with_reducible refine bel_drewN ?_ _) | (with_reducible refine bel_drew ?_) | (with_reducible refine bel_trans ?_ (by assumption)))); done) (Ty.ow_rd howp1)) (Ty.rd_below (by (repeat' (first | (with_reducible exact Below.refl _ _) | (with_reducible assumption) | (with_reducible refine bel_set ?_ (by (try dsimp only); omega) _) | (with_reducible refine bel_alloc ?_ _) | (with_reducible refine bel_drewN ?_ _) | (with_reducible refine bel_drew ?_) | (with_reducible refine bel_trans ?_ (by assumption)))); done) (Ty.ow_rd howp2)) s0 s1 s2 i3).mono ?_
            rintro e w4 ⟨cs4_, fp4, rfl, how4, hfr4, hb4⟩
            obtain ⟨Apq0, cpq0, Apq1, cpq1, Apq2, cpq2, rfl⟩ := ow_Data how4
            have hz4 := hb4.size
            try simp only [World.size_alloc, World.size_drew, size_drewN] at hz4
            refine hK.out _ _ ?_ (fun hHeld => ?_)
            · (try dsimp only)
              exact HSp.out _ (by (repeat' (first | (with_reducible exact Below.refl _ _) | (with_reducible assumption) | (with_reducible refine bel_set ?_ (by (try dsimp only); omega) _) | (with_reducible refine bel_alloc ?_ _) | (with_reducible refine bel_drewN ?_ _) | (with_reducible refine bel_drew ?_) | (with_reducible refine bel_trans ?_ (by assumption)))); done)
            clear hK K
            try simp only [Act.put, List.setIfInBounds_toArray, List.set_cons_zero, List.set_cons_succ]
            refine tk 8 (opN rfl) (by kernel_rfl) (by rfl) (by (intro w hSw; (try dsimp only at hSw); go_simp; first | done | with_reducible rfl)) (by assumption) ?_
            try simp only [Act.put, List.setIfInBounds_toArray, List.set_cons_zero, List.set_cons_succ]
            refine tk 9 (opN rfl) (by kernel_rfl) (by rfl) (by (intro w hSw; (try dsimp only at hSw); go_simp; first | done | with_reducible rfl)) (by assumption) ?_
            try simp only [Act.put, List.setIfInBounds_toArray, List.set_cons_zero, List.set_cons_succ]
            refine tk 10 (opN rfl) (by kernel_rfl) (by rfl) (by (intro w hSw; (try dsimp only at hSw); go_simp; first | done | with_reducible rfl)) (by assumption) ?_
            try simp only [Act.put, List.setIfInBounds_toArray, List.set_cons_zero, List.set_cons_succ]
            refine wpAnyH_ready (rs := [11]) (by kernel_rfl) (by simp) ?_
            refine (AllReadyH.cons (opN rfl) (fun K hK => ?_) AllReadyH.nil)
            go_simp
            refine hK.out _ _ ?_ (fun hHeld => ?_)
            · (try dsimp only)
              exact HSp.out _ (by (repeat' (first | (with_reducible exact Below.refl _ _) | (with_reducible assumption) | (with_reducible refine bel_set ?_ (by (try dsimp only); omega) _) | (with_reducible refine bel_alloc ?_ _) | (with_reducible refine bel_drewN ?_ _) | (with_reducible refine bel_drew ?_) | (with_reducible refine bel_trans ?_ (by assumption)))); done)
            clear hK K
            try simp only [Act.put, List.setIfInBounds_toArray, List.set_cons_zero, List.set_cons_succ]
            refine wpAnyH_ready (rs := [12]) (by kernel_rfl) (by simp) ?_
            refine (AllReadyH.cons (opN rfl) (fun K hK => ?_) AllReadyH.nil)
            go_simp
            refine hK.out _ _ ?_ (fun hHeld => ?_)
            · (try dsimp only)
              exact HSp.out _ (by (repeat' (first | (with_reducible exact Below.refl _ _) | (with_reducible assumption) | (with_reducible refine bel_set ?_ (by (try dsimp only); omega) _) | (with_reducible refine bel_alloc ?_ _) | (with_reducible refine bel_drewN ?_ _) | (with_reducible refine bel_drew ?_) | (with_reducible refine bel_trans ?_ (by assumption)))); done)
            clear hK K
            try simp only [Act.put, List.setIfInBounds_toArray, List.set_cons_zero, List.set_cons_succ]
            refine tk 13 (opN rfl) (by kernel_rfl) (by rfl) (by (intro w hSw; (try dsimp only at hSw); go_simp; first | done | with_reducible rfl)) (by assumption) ?_
            try simp only [Act.put, List.setIfInBounds_toArray, List.set_cons_zero, List.set_cons_succ]
            refine wpAnyH_done (by kernel_rfl) ?_ _
            refine NoPanic.normal ?_
            go_wp2_with fail
            go_meet
            refine ⟨_, Apq0, cpq0, Apq1, cpq1, Apq2, cpq2, fp4, rfl, rfl, ?_, ?_, ?_, ?_⟩
            · exact Blk.new _ _ _
            · exact Ty.ow_bel (bel_alloc (Below.refl _ _) _) how4
            · exact hfr4.mono (by (try simp only [World.size_alloc, World.size_setCell, World.size_drew, size_drewN]); omega) (by (try simp only [World.size_alloc, World.size_setCell, World.size_drew, size_drewN]); omega)
            · exact (by (repeat' (first | (with_reducible exact Below.refl _ _) | (with_reducible assumption) | (with_reducible refine bel_set ?_ (by (try dsimp only); omega) _) | (with_reducible refine bel_alloc ?_ _) | (with_reducible refine bel_drewN ?_ _) | (with_reducible refine bel_drew ?_) | (with_reducible refine bel_trans ?_ (by assumption)))); done)
          · go_simp
            refine hK.out _ _ ?_ (fun hHeld => ?_)
            · (try dsimp only)
              exact HSp.out _ (by (repeat' (first | (with_reducible exact Below.refl _ _) | (with_reducible assumption) | (with_reducible refine bel_set ?_ (by (try dsimp only); omega) _) | (with_reducible refine bel_alloc ?_ _) | (with_reducible refine bel_drewN ?_ _) | (with_reducible refine bel_drew ?_) | (with_reducible refine bel_trans ?_ (by assumption)))); done)
            clear hK K
            try simp only [Act.put, List.setIfInBounds_toArray, List.set_cons_zero, List.set_cons_succ]
            refine wpAnyH_ready (rs := [7]) (by kernel_rfl) (by simp) ?_
            refine (AllReadyH.cons (opN rfl) (fun K hK => ?_) AllReadyH.nil)
            go_simp
            go_at_call 42
            refine (C_spec_IssueCertificate _ _ x0 _ x1 _ x2 a3 (Ty.rd_below (by (repeat' (first | (with_reducible exact Below.refl _ _) | (with_reducible assumption) | (with_reducible refine bel_set ?_ (by (try dsimp only); omega) _) | (with_reducible refine bel_alloc ?_ _) | (with_reducible refine bel_drewN ?_ _) | (with_reducible refine bel_drew ?_) | (with_reducible refine bel_trans ?_ (by assumption)))); done) (Ty.ow_rd howp0)) (Ty.rd_below (by (repeat' (first | (with_reducible exact Below.refl _ _) | (with_reducible assumption) | (with_reducible refine bel_set ?_ (by (try dsimp only); omega) _) | (with_reducible refine bel_alloc ?_ _) | (with_reducible refine bel_drewN ?_ _) | (with_reducible refine bel_drew ?_) | (with_reducible refine bel_trans ?_ (by assumption)))); done) (Ty.ow_rd howp1)) (Ty.rd_below (by (repeat' (first | (with_reducible exact Below.refl _ _) | (with_reducible assumption) | (with_reducible refine bel_set ?_ (by (try dsimp only); omega) _) | (with_reducible refine bel_alloc ?_ _) | (with_reducible refine bel_drewN ?_ _) | (with_reducible refine bel_drew ?_) | (with_reducible refine bel_trans ?_ (by assumption)))); done) (Ty.ow_rd howp2)) s0 s1 s2 i3).mono ?_
            rintro e w4 ⟨cs4_, fp4, rfl, how4, hfr4, hb4⟩
            obtain ⟨Apq0, cpq0, Apq1, cpq1, Apq2, cpq2, rfl⟩ := ow_Data how4
            have hz4 := hb4.size
            try simp only [World.size_alloc, World.size_drew, size_drewN] at hz4
            refine hK.out _ _ ?_ (fun hHeld => ?_)
            · (try dsimp only)
              exact HSp.out _ (by (repeat' (first | (with_reducible exact Below.refl _ _) | (with_reducible assumption) | (with_reducible refine bel_set ?_ (by (try dsimp only); omega) _) | (with_reducible refine bel_alloc ?_ _) | (with_reducible refine bel_drewN ?_ _) | (with_reducible refine bel_drew ?_) | (with_reducible refine bel_trans ?_ (by assumption)))); done)
            clear hK K
            try simp only [Act.put, List.setIfInBounds_toArray, List.set_cons_zero, List.set_cons_succ]
            refine tk 8 (opN rfl) (by kernel_rfl) (by rfl) (by (intro w hSw; (try dsimp only at hSw); go_simp; first | done | with_reducible rfl)) (by assumption) ?_
            try simp only [Act.put, List.setIfInBounds_toArray, List.set_cons_zero, List.set_cons_succ]
            refine tk 9 (opN rfl) (by kernel_rfl) (by rfl) (by (intro w hSw; (try dsimp only at hSw); go_simp; first | done | with_reducible rfl)) (by assumption) ?_
            try simp only [Act.put, List.setIfInBounds_toArray, List.set_cons_zero, List.set_cons_succ]
            refine tk 10 (opN rfl) (by kernel_rfl) (by rfl) (by (intro w hSw; (try dsimp only at hSw); go_simp; first | done | with_reducible rfl)) (by assumption) ?_
            try simp only [Act.put, List.setIfInBounds_toArray, List.set_cons_zero, List.set_cons_succ]
            have hG : Blk w4 (wp2.heap.size) 31 #[.slice none 0 0, .slice none 0 0, .slice none 0 0, .int .i64 0, .int .i64 0] := by
              refine Blk.below (B := _) ?_ hb4 (by (try simp only [World.size_alloc, World.size_setCell, World.size_drew, size_drewN]); omega)
              first | exact Blk.new _ _ _ | exact Blk.drew (Blk.new _ _ _) | exact Blk.drewN (Blk.new _ _ _) _
            have kG0 : w4.cell? ⟨wp2.heap.size, 0, none⟩ = some (.slice none 0 0) := hG.cell 0
            have fG0 := hG.frozen 0
            have kG1 : w4.cell? ⟨wp2.heap.size, 1, none⟩ = some (.slice none 0 0) := hG.cell 1
            have fG1 := hG.frozen 1
            have kG2 : w4.cell? ⟨wp2.heap.size, 2, none⟩ = some (.slice none 0 0) := hG.cell 2
            have fG2 := hG.frozen 2
            have kG3 : w4.cell? ⟨wp2.heap.size, 3, none⟩ = some (.int .i64 0) := hG.cell 3
            have fG3 := hG.frozen 3
            have kG4 : w4.cell? ⟨wp2.heap.size, 4, none⟩ = some (.int .i64 0) := hG.cell 4
            have fG4 := hG.frozen 4
            have zG := hG.lt
            refine wpAnyH_ready (rs := [12]) (by kernel_rfl) (by simp) ?_
            refine (AllReadyH.cons (opN rfl) (fun K hK => ?_) AllReadyH.nil)
            go_simp
            refine hK.out _ _ ?_ (fun hHeld => ?_)
            · (try dsimp only)
              exact HSp.out _ (by (repeat' (first | (with_reducible exact Below.refl _ _) | (with_reducible assumption) | (with_reducible refine bel_set ?_ (by (try dsimp only); omega) _) | (with_reducible refine bel_alloc ?_ _) | (with_reducible refine bel_drewN ?_ _) | (with_reducible refine bel_drew ?_) | (with_reducible refine bel_trans ?_ (by assumption)))); done)
            clear hK K
            try simp only [Act.put, List.setIfInBounds_toArray, List.set_cons_zero, List.set_cons_succ]
            refine tk 13 (opN rfl) (by kernel_rfl) (by rfl) (by (intro w hSw; (try dsimp only at hSw); go_simp; first | done | with_reducible rfl)) (by assumption) ?_
            try simp only [Act.put, List.setIfInBounds_toArray, List.set_cons_zero, List.set_cons_succ]
            refine wpAnyH_done (by kernel_rfl) ?_ _
            refine NoPanic.normal ?_
            go_wp2_with fail
            go_meet
            refine ⟨_, Apq0, cpq0, Apq1, cpq1, Apq2, cpq2, fp4, rfl, rfl, ?_, ?_, ?_, ?_⟩
            · exact (Blk.set_ (Blk.set_ (Blk.set_ (Blk.set_ (Blk.set_ hG 0 _) 1 _) 2 _) 3 _) 4 _)
            · exact Ty.ow_keep (by intro b hb'; have hb'' := (hfr4).2 b hb'; (try simp only [World.size_alloc, World.size_setCell, size_drewN, World.size_drew] at hb''); repeat (first | (with_reducible rfl) | (rw [Below.heap_setCell _ _ _ _ (by (try dsimp only); omega)]) | (rw [Below.heap_alloc _ _ _ (by (try simp only [World.size_alloc, World.size_setCell]); omega)]))) how4
            · exact hfr4.mono (by (try simp only [World.size_alloc, World.size_setCell, World.size_drew, size_drewN]); omega) (by (try simp only [World.size_alloc, World.size_setCell, World.size_drew, size_drewN]); omega)
            · exact (by (repeat' (first | (with_reducible exact Below.refl _ _) | (with_reducible assumption) | (with_reducible refine bel_set ?_ (by (try dsimp only); omega) _) | (with_reducible refine bel_alloc ?_ _) | (with_reducible refine bel_drewN ?_ _) | (with_reducible refine bel_drew ?_) | (with_reducible refine bel_trans ?_ (by assumption)))); done)
        · go_simp
          refine hK.out _ _ ?_ (fun hHeld => ?_)
          · (try dsimp only)
            exact HSp.out _ (by (repeat' (first | (with_reducible exact Below.refl _ _) | (with_reducible assumption) | (with_reducible refine bel_set ?_ (by (try dsimp only); omega) _) | (with_reducible refine bel_alloc ?_ _) | (with_reducible refine bel_drewN ?_ _) | (with_reducible refine bel_drew ?_) | (with_reducible refine bel_trans ?_ (by assumption)))); done)
          clear hK K
          try simp only [Act.put, List.setIfInBounds_toArray, List.set_cons_zero, List.set_cons_succ]
          refine wpAnyH_ready (rs := [5]) (by kernel_rfl) (by simp) ?_
          refine (AllReadyH.cons (opN rfl) (fun K hK => ?_) AllReadyH.nil)
          go_simp
          go_at_call 35
          refine (C_laws_toName _ _ x2 (Ty.rd_below (by (repeat' (first | (with_reducible exact Below.refl _ _) | (with_reducible assumption) | (with_reducible refine bel_set ?_ (by (try dsimp only); omega) _) | (with_reducible refine bel_alloc ?_ _) | (with_reducible refine bel_drewN ?_ _) | (with_reducible refine bel_drew ?_) | (with_reducible refine bel_trans ?_ (by assumption)))); done) h2) s2).mono ?_
          rintro e wp2 ⟨csp2, fpp2, rfl, howp2, hfrp2, hbp2⟩
          have hzp2 := hbp2.size
          try simp only [World.size_alloc, World.size_drew, size_drewN] at hzp2
          refine hK.out _ _ ?_ (fun hHeld => ?_)
          · (try dsimp only)
            exact HSp.out _ (by (repeat' (first | (with_reducible exact Below.refl _ _) | (with_reducible assumption) | (with_reducible refine bel_set ?_ (by (try dsimp only); omega) _) | (with_reducible refine bel_alloc ?_ _) | (with_reducible refine bel_drewN ?_ _) | (with_reducible refine bel_drew ?_) | (with_reducible refine bel_trans ?_ (by assumption)))); done)
          clear hK K
          try simp only [Act.put, List.setIfInBounds_toArray, List.set_cons_zero, List.set_cons_succ]
          refine wpAnyH_ready (rs := [7]) (by kernel_rfl) (by simp) ?_
          refine (AllReadyH.cons (opN rfl) (fun K hK => ?_) AllReadyH.nil)
          go_simp
          go_at_call 42
          refine (C_spec_IssueCertificate _ _ x0 _ x1 _ x2 a3 (Ty.rd_below (by (repeat' (first | (with_reducible exact Below.refl _ _) | (with_reducible assumption) | (with_reducible refine bel_set ?_ (by (try dsimp only); omega) _) | (with_reducible refine bel_alloc ?_ _) | (with_reducible refine bel_drewN ?_ _) | (with_reducible refine bel_drew ?_) | (with_reducible refine bel_trans ?_ (by assumption)))); done) (Ty.ow_rd howp0)) (Ty.rd_below (by (repeat' (first | (with_reducible exact Below.refl _ _) | (with_reducible assumption) | (with_reducible refine bel_set ?_ (by (try dsimp only); omega) _) | (with_reducible refine bel_alloc ?_ _) | (with_reducible refine bel_drewN ?_ _) | (with_reducible refine bel_drew ?_) | (with_reducible refine bel_trans ?_ (by assumption)))); done) (Ty.ow_rd howp1)) (Ty.rd_below (by (repeat' (first | (with_reducible exact Below.refl _ _) | (with_reducible assumption) | (with_reducible refine bel_set ?_ (by (try dsimp only); omega) _) | (with_reducible refine bel_alloc ?_ _) | (with_reducible refine bel_drewN ?_ _) | (with_reducible refine bel_drew ?_) | (with_reducible refine bel_trans ?_ (by assumption)))); done) (Ty.ow_rd howp2)) s0 s1 s2 i3).mono ?_
          rintro e w4 ⟨cs4_, fp4, rfl, how4, hfr4, hb4⟩
          obtain ⟨Apq0, cpq0, Apq1, cpq1, Apq2, cpq2, rfl⟩ := ow_Data how4
          have hz4 := hb4.size
          try simp only [World.size_alloc, World.size_drew, size_drewN] at hz4
          refine hK.out _ _ ?_ (fun hHeld => ?_)
          · (try dsimp only)
            exact HSp.out _ (by (repeat' (first | (with_reducible exact Below.refl _ _) | (with_reducible assumption) | (with_reducible refine bel_set ?_ (by (try dsimp only); omega) _) | (with_reducible refine bel_alloc ?_ _) | (with_reducible refine bel_drewN ?_ _) | (with_reducible refine bel_drew ?_) | (with_reducible refine bel_trans ?_ (by assumption)))); done)
          clear hK K
          try simp only [Act.put, List.setIfInBounds_toArray, List.set_cons_zero, List.set_cons_succ]
          refine tk 8 (opN rfl) (by kernel_rfl) (by rfl) (by (intro w hSw; (try dsimp only at hSw); go_simp; first | done | with_reducible rfl)) (by assumption) ?_
          try simp only [Act.put, List.setIfInBounds_toArray, List.set_cons_zero, List.set_cons_succ]
          refine tk 9 (opN rfl) (by kernel_rfl) (by rfl) (by (intro w hSw; (try dsimp only at hSw); go_simp; first | done | with_reducible rfl)) (by assumption) ?_
          try simp only [Act.put, List.setIfInBounds_toArray, List.set_cons_zero, List.set_cons_succ]
          refine tk 10 (opN rfl) (by kernel_rfl) (by rfl) (by (intro w hSw; (try dsimp only at hSw); go_simp; first | done | with_reducible rfl)) (by assumption) ?_
          try simp only [Act.put, List.setIfInBounds_toArray, List.set_cons_zero, List.set_cons_succ]
          have hG : Blk w4 (wp1.heap.size) 31 #[.slice none 0 0, .slice none 0 0, .slice none 0 0, .int .i64 0, .int .i64 0] := by
            refine Blk.below (B := _) ?_ hb4 (by (try simp only [World.size_alloc, World.size_setCell, World.size_drew, size_drewN]); omega)
            refine Blk.below (B := _) ?_ hbp2 (by (try simp only [World.size_alloc, World.size_setCell, World.size_drew, size_drewN]); omega)
            first | exact Blk.new _ _ _ | exact Blk.drew (Blk.new _ _ _) | exact Blk.drewN (Blk.new _ _ _) _
          have kG0 : w4.cell? ⟨wp1.heap.size, 0, none⟩ = some (.slice none 0 0) := hG.cell 0
          have fG0 := hG.frozen 0
          have kG1 : w4.cell? ⟨wp1.heap.size, 1, none⟩ = some (.slice none 0 0) := hG.cell 1
          have fG1 := hG.frozen 1
          have kG2 : w4.cell? ⟨wp1.heap.size, 2, none⟩ = some (.slice none 0 0) := hG.cell 2
          have fG2 := hG.frozen 2
          have kG3 : w4.cell? ⟨wp1.heap.size, 3, none⟩ = some (.int .i64 0) := hG.cell 3
          have fG3 := hG.frozen 3
          have kG4 : w4.cell? ⟨wp1.heap.size, 4, none⟩ = some (.int .i64 0) := hG.cell 4
          have fG4 := hG.frozen 4
          have zG := hG.lt
          refine wpAnyH_ready (rs := [12]) (by kernel_rfl) (by simp) ?_
          refine (AllReadyH.cons (opN rfl) (fun K hK => ?_) AllReadyH.nil)
          go_simp
          refine hK.out _ _ ?_ (fun hHeld => ?_)
          · (try dsimp only)
            exact HSp.out _ (by (repeat' (first | (with_reducible exact Below.refl _ _) | (with_reducible assumption) | (with_reducible refine bel_set ?_ (by (try dsimp only); omega) _) | (with_reducible refine bel_alloc ?_ _) | (with_reducible refine bel_drewN ?_ _) | (with_reducible refine bel_drew ?_) | (with_reducible refine bel_trans ?_ (by assumption)))); done)
          clear hK K
          try simp only [Act.put, List.setIfInBounds_toArray, List.set_cons_zero, List.set_cons_succ]
          refine tk 13 (opN rfl) (by kernel_rfl) (by rfl) (by (intro w hSw; (try dsimp only at hSw); go_simp; first | done | with_reducible rfl)) (by assumption) ?_
          try simp only [Act.put, List.setIfInBounds_toArray, List.set_cons_zero, List.set_cons_succ]
          refine wpAnyH_done (by kernel_rfl) ?_ _
          refine NoPanic.normal ?_
          go_wp2_with fail
          go_meet
          refine ⟨_, Apq0, cpq0, Apq1, cpq1, Apq2, cpq2, fp4, rfl, rfl, ?_, ?_, ?_, ?_⟩
          · exact (Blk.set_ (Blk.set_ (Blk.set_ (Blk.set_ (Blk.set_ hG 0 _) 1 _) 2 _) 3 _) 4 _)
          · exact Ty.ow_keep (by intro b hb'; have hb'' := (hfr4).2 b hb'; (try simp only [World.size_alloc, World.size_setCell, size_drewN, World.size_drew] at hb''); repeat (first | (with_reducible rfl) | (rw [Below.heap_setCell _ _ _ _ (by (try dsimp only); omega)]) | (rw [Below.heap_alloc _ _ _ (by (try simp only [World.size_alloc, World.size_setCell]); omega)]))) how4
          · exact hfr4.mono (by (try simp only [World.size_alloc, World.size_setCell, World.size_drew, size_drewN]); omega) (by (try simp only [World.size_alloc, World.size_setCell, World.size_drew, size_drewN]); omega)
          · exact (by (repeat' (first | (with_reducible exact Below.refl _ _) | (with_reducible assumption) | (with_reducible refine bel_set ?_ (by (try dsimp only); omega) _) | (with_reducible refine bel_alloc ?_ _) | (with_reducible refine bel_drewN ?_ _) | (with_reducible refine bel_drew ?_) | (with_reducible refine bel_trans ?_ (by assumption)))); done)
      · go_simp
        refine hK.out _ _ ?_ (fun hHeld => ?_)
        · (try dsimp only)
          exact HSp.out _ (by (repeat' (first | (with_reducible exact Below.refl _ _) | (with_reducible assumption) | (with_reducible refine bel_set ?_ (by (try dsimp only); omega) _) | (with_reducible refine bel_alloc ?_ _) | (with_reducible refine bel_drewN ?_ _) | (with_reducible refine bel_drew ?_) | (with_reducible refine bel_trans ?_ (by assumption)))); done)
        clear hK K
        try simp only [Act.put, List.setIfInBounds_toArray, List.set_cons_zero, List.set_cons_succ]
        refine wpAnyH_ready (rs := [3]) (by kernel_rfl) (by simp) ?_
        refine (AllReadyH.cons (opN rfl) (fun K hK => ?_) AllReadyH.nil)
        go_simp
        go_at_call 35
        refine (C_laws_toName _ _ x1 (Ty.rd_below (by (repeat' (first | (with_reducible exact Below.refl _ _) | (with_reducible assumption) | (with_reducible refine bel_set ?_ (by (try dsimp only); omega) _) | (with_reducible refine bel_alloc ?_ _) | (with_reducible refine bel_drewN ?_ _) | (with_reducible refine bel_drew ?_) | (with_reducible refine bel_trans ?_ (by assumption)))); done) h1) s1).mono ?_
        rintro e wp1 ⟨csp1, fpp1, rfl, howp1, hfrp1, hbp1⟩
        have hzp1 := hbp1.size
        try simp only [World.size_alloc, World.size_drew, size_drewN] at hzp1
        refine hK.out _ _ ?_ (fun hHeld => ?_)
        · (try dsimp only)
          exact HSp.out _ (by (repeat' (first | (with_reducible exact Below.refl _ _) | (with_reducible assumption) | (with_reducible refine bel_set ?_ (by (try dsimp only); omega) _) | (with_reducible refine bel_alloc ?_ _) | (with_reducible refine bel_drewN ?_ _) | (with_reducible refine bel_drew ?_) | (with_reducible refine bel_trans ?_ (by assumption)))); done)
        clear hK K
        try simp only [Act.put, List.setIfInBounds_toArray, List.set_cons_zero, List.set_cons_succ]
        refine wpAnyH_ready (rs := [5]) (by kernel_rfl) (by simp) ?_
        refine (AllReadyH.cons (opN rfl) (fun K hK => ?_) AllReadyH.nil)
        go_simp
        go_at_call 35
        refine (C_laws_toName _ _ x2 (Ty.rd_below (by (repeat' (first | (with_reducible exact Below.refl _ _) | (with_reducible assumption) | (with_reducible refine bel_set ?_ (by (try dsimp only); omega) _) | (with_reducible refine bel_alloc ?_ _) | (with_reducible refine bel_drewN ?_ _) | (with_reducible refine bel_drew ?_) | (with_reducible refine bel_trans ?_ (by assumption)))); done) h2) s2).mono ?_
        rintro e wp2 ⟨csp2, fpp2, rfl, howp2, hfrp2, hbp2⟩
        have hzp2 := hbp2.size
        try simp only [World.size_alloc, World.size_drew, size_drewN] at hzp2
        refine hK.out _ _ ?_ (fun hHeld => ?_)
        · (try dsimp only)
          exact HSp.out _ (by (repeat' (first | (with_reducible exact Below.refl _ _) | (with_reducible assumption) | (with_reducible refine bel_set ?_ (by (try dsimp only); omega) _) | (with_reducible refine bel_alloc ?_ _) | (with_reducible refine bel_drewN ?_ _) | (with_reducible refine bel_drew ?_) | (with_reducible refine bel_trans ?_ (by assumption)))); done)
        clear hK K
        try simp only [Act.put, List.setIfInBounds_toArray, List.set_cons_zero, List.set_cons_succ]
        refine wpAnyH_ready (rs := [7]) (by kernel_rfl) (by simp) ?_
        refine (AllReadyH.cons (opN rfl) (fun K hK => ?_) AllReadyH.nil)
        go_simp
        go_at_call 42
        refine (C_spec_IssueCertificate _ _ x0 _ x1 _ x2 a3 (Ty.rd_below (by (repeat' (first | (with_reducible exact Below.refl _ _) | (with_reducible assumption) | (with_reducible refine bel_set ?_ (by (try dsimp only); omega) _) | (with_reducible refine bel_alloc ?_ _) | (with_reducible refine bel_drewN ?_ _) | (with_reducible refine bel_drew ?_) | (with_reducible refine bel_trans ?_ (by assumption)))); done) (Ty.ow_rd howp0)) (Ty.rd_below (by (repeat' (first | (with_reducible exact Below.refl _ _) | (with_reducible assumption) | (with_reducible refine bel_set ?_ (by (try dsimp only); omega) _) | (with_reducible refine bel_alloc ?_ _) | (with_reducible refine bel_drewN ?_ _) | (with_reducible refine bel_drew ?_) | (with_reducible refine bel_trans ?_ (by assumption)))); done) (Ty.ow_rd howp1)) (Ty.rd_below (by (repeat' (first | (with_reducible exact Below.refl _ _) | (with_reducible assumption) | (with_reducible refine bel_set ?_ (by (try dsimp only); omega) _) | (with_reducible refine bel_alloc ?_ _) | (with_reducible refine bel_drewN ?_ _) | (with_reducible refine bel_drew ?_) | (with_reducible refine bel_trans ?_ (by assumption)))); done) (Ty.ow_rd howp2)) s0 s1 s2 i3).mono ?_
        rintro e w4 ⟨cs4_, fp4, rfl, how4, hfr4, hb4⟩
        obtain ⟨Apq0, cpq0, Apq1, cpq1, Apq2, cpq2, rfl⟩ := ow_Data how4
        have hz4 := hb4.size
        try simp only [World.size_alloc, World.size_drew, size_drewN] at hz4
        refine hK.out _ _ ?_ (fun hHeld => ?_)
        · (try dsimp only)
          exact HSp.out _ (by (repeat' (first | (with_reducible exact Below.refl _ _) | (with_reducible assumption) | (with_reducible refine bel_set ?_ (by (try dsimp only); omega) _) | (with_reducible refine bel_alloc ?_ _) | (with_reducible refine bel_drewN ?_ _) | (with_reducible refine bel_drew ?_) | (with_reducible refine bel_trans ?_ (by assumption)))); done)
        clear hK K
        try simp only [Act.put, List.setIfInBounds_toArray, List.set_cons_zero, List.set_cons_succ]
        refine tk 8 (opN rfl) (by kernel_rfl) (by rfl) (by (intro w hSw; (try dsimp only at hSw); go_simp; first | done | with_reducible rfl)) (by assumption) ?_
        try simp only [Act.put, List.setIfInBounds_toArray, List.set_cons_zero, List.set_cons_succ]
        refine tk 9 (opN rfl) (by kernel_rfl) (by rfl) (by (intro w hSw; (try dsimp only at hSw); go_simp; first | done | with_reducible rfl)) (by assumption) ?_
        try simp only [Act.put, List.setIfInBounds_toArray, List.set_cons_zero, List.set_cons_succ]
        refine tk 10 (opN rfl) (by kernel_rfl) (by rfl) (by (intro w hSw; (try dsimp only at hSw); go_simp; first | done | with_reducible rfl)) (by assumption) ?_
        try simp only [Act.put, List.setIfInBounds_toArray, List.set_cons_zero, List.set_cons_succ]
        have hG : Blk w4 (wp0.heap.size) 31 #[.slice none 0 0, .slice none 0 0, .slice none 0 0, .int .i64 0, .int .i64 0] := by
          refine Blk.below (B := _) ?_ hb4 (by (try simp only [World.size_alloc, World.size_setCell, World.size_drew, size_drewN]); omega)
          refine Blk.below (B := _) ?_ hbp2 (by (try simp only [World.size_alloc, World.size_setCell, World.size_drew, size_drewN]); omega)
          refine Blk.below (B := _) ?_ hbp1 (by (try simp only [World.size_alloc, World.size_setCell, World.size_drew, size_drewN]); omega)
          first | exact Blk.new _ _ _ | exact Blk.drew (Blk.new _ _ _) | exact Blk.drewN (Blk.new _ _ _) _
        have kG0 : w4.cell? ⟨wp0.heap.size, 0, none⟩ = some (.slice none 0 0) := hG.cell 0
        have fG0 := hG.frozen 0
        have kG1 : w4.cell? ⟨wp0.heap.size, 1, none⟩ = some (.slice none 0 0) := hG.cell 1
        have fG1 := hG.frozen 1
        have kG2 : w4.cell? ⟨wp0.heap.size, 2, none⟩ = some (.slice none 0 0) := hG.cell 2
        have fG2 := hG.frozen 2
        have kG3 : w4.cell? ⟨wp0.heap.size, 3, none⟩ = some (.int .i64 0) := hG.cell 3
        have fG3 := hG.frozen 3
        have kG4 : w4.cell? ⟨wp0.heap.size, 4, none⟩ = some (.int .i64 0) := hG.cell 4
        have fG4 := hG.frozen 4
        have zG := hG.lt
        refine wpAnyH_ready (rs := [12]) (by kernel_rfl) (by simp) ?_
        refine (AllReadyH.cons (opN rfl) (fun K hK => ?_) AllReadyH.nil)
        go_simp
        refine hK.out _ _ ?_ (fun hHeld => ?_)
        · (try dsimp only)
          exact HSp.out _ (by (repeat' (first | (with_reducible exact Below.refl _ _) | (with_reducible assumption) | (with_reducible refine bel_set ?_ (by (try dsimp only); omega) _) | (with_reducible refine bel_alloc ?_ _) | (with_reducible refine bel_drewN ?_ _) | (with_reducible refine bel_drew ?_) | (with_reducible refine bel_trans ?_ (by assumption)))); done)
        clear hK K
        try simp only [Act.put, List.setIfInBounds_toArray, List.set_cons_zero, List.set_cons_succ]
        refine tk 13 (opN rfl) (by kernel_rfl) (by rfl) (by (intro w hSw; (try dsimp only at hSw); go_simp; first | done | with_reducible rfl)) (by assumption) ?_
        try simp only [Act.put, List.setIfInBounds_toArray, List.set_cons_zero, List.set_cons_succ]
        refine wpAnyH_done (by kernel_rfl) ?_ _
        refine NoPanic.normal ?_
        go_wp2_with fail
        go_meet
        refine ⟨_, Apq0, cpq0, Apq1, cpq1, Apq2, cpq2, fp4, rfl, rfl, ?_, ?_, ?_, ?_⟩
        · exact (Blk.set_ (Blk.set_ (Blk.set_ (Blk.set_ (Blk.set_ hG 0 _) 1 _) 2 _) 3 _) 4 _)
        · exact Ty.ow_keep (by intro b hb'; have hb'' := (hfr4).2 b hb'; (try simp only [World.size_alloc, World.size_setCell, size_drewN, World.size_drew] at hb''); repeat (first | (with_reducible rfl) | (rw [Below.heap_setCell _ _ _ _ (by (try dsimp only); omega)]) | (rw [Below.heap_alloc _ _ _ (by (try simp only [World.size_alloc, World.size_setCell]); omega)]))) how4
        · exact hfr4.mono (by (try simp only [World.size_alloc, World.size_setCell, World.size_drew, size_drewN]); omega) (by (try simp only [World.size_alloc, World.size_setCell, World.size_drew, size_drewN]); omega)
        · exact (by (repeat' (first | (with_reducible exact Below.refl _ _) | (with_reducible assumption) | (with_reducible refine bel_set ?_ (by (try dsimp only); omega) _) | (with_reducible refine bel_alloc ?_ _) | (with_reducible refine bel_drewN ?_ _) | (with_reducible refine bel_drew ?_) | (with_reducible refine bel_trans ?_ (by assumption)))); done)
    · go_simp
      refine hK.out _ _ ?_ (fun hHeld => ?_)
      · (try dsimp only)
        exact HSp.out _ (by (repeat' (first | (with_reducible exact Below.refl _ _) | (with_reducible assumption) | (with_reducible refine bel_set ?_ (by (try dsimp only); omega) _) | (with_reducible refine bel_alloc ?_ _) | (with_reducible refine bel_drewN ?_ _) | (with_reducible refine bel_drew ?_) | (with_reducible refine bel_trans ?_ (by assumption)))); done)
      clear hK K
      try simp only [Act.put, List.setIfInBounds_toArray, List.set_cons_zero, List.set_cons_succ]
      refine wpAnyH_ready (rs := [1]) (by kernel_rfl) (by simp) ?_
      refine (AllReadyH.cons (opN rfl) (fun K hK => ?_) AllReadyH.nil)
      go_simp
      go_at_call 24
      refine (C_laws_toKeyS _ _ x0 (Ty.rd_below (by (repeat' (first | (with_reducible exact Below.refl _ _) | (with_reducible assumption) | (with_reducible refine bel_set ?_ (by (try dsimp only); omega) _) | (with_reducible refine bel_alloc ?_ _) | (with_reducible refine bel_drewN ?_ _) | (with_reducible refine bel_drew ?_) | (with_reducible refine bel_trans ?_ (by assumption)))); done) h0) s0).mono ?_
      rintro e wp0 ⟨Ap0, cp0, fpp0, rfl, howp0, hfrp0, hbp0⟩
      have hzp0 := hbp0.size
      try simp only [World.size_alloc, World.size_drew, size_drewN] at hzp0
      refine hK.out _ _ ?_ (fun hHeld => ?_)
      · (try dsimp only)
        exact HSp.out _ (by (repeat' (first | (with_reducible exact Below.refl _ _) | (with_reducible assumption) | (with_reducible refine bel_set ?_ (by (try dsimp only); omega) _) | (with_reducible refine bel_alloc ?_ _) | (with_reducible refine bel_drewN ?_ _) | (with_reducible refine bel_drew ?_) | (with_reducible refine bel_trans ?_ (by assumption)))); done)
      clear hK K
      try simp only [Act.put, List.setIfInBounds_toArray, List.set_cons_zero, List.set_cons_succ]
      refine wpAnyH_ready (rs := [3]) (by kernel_rfl) (by simp) ?_
      refine (AllReadyH.cons (opN rfl) (fun K hK => ?_) AllReadyH.nil)
      go_simp
      go_at_call 35
      refine (C_laws_toName _ _ x1 (Ty.rd_below (by (repeat' (first | (with_reducible exact Below.refl _ _) | (with_reducible assumption) | (with_reducible refine bel_set ?_ (by (try dsimp only); omega) _) | (with_reducible refine bel_alloc ?_ _) | (with_reducible refine bel_drewN ?_ _) | (with_reducible refine bel_drew ?_) | (with_reducible refine bel_trans ?_ (by assumption)))); done) h1) s1).mono ?_
      rintro e wp1 ⟨csp1, fpp1, rfl, howp1, hfrp1, hbp1⟩
      have hzp1 := hbp1.size
      try simp only [World.size_alloc, World.size_drew, size_drewN] at hzp1
      refine hK.out _ _ ?_ (fun hHeld => ?_)
      · (try dsimp only)
        exact HSp.out _ (by (repeat' (first | (with_reducible exact Below.refl _ _) | (with_reducible assumption) | (with_reducible refine bel_set ?_ (by (try dsimp only); omega) _) | (with_reducible refine bel_alloc ?_ _) | (with_reducible refine bel_drewN ?_ _) | (with_reducible refine bel_drew ?_) | (with_reducible refine bel_trans ?_ (by assumption)))); done)
      clear hK K
      try simp only [Act.put, List.setIfInBounds_toArray, List.set_cons_zero, List.set_cons_succ]
      refine wpAnyH_ready (rs := [5]) (by kernel_rfl) (by simp) ?_
      refine (AllReadyH.cons (opN rfl) (fun K hK => ?_) AllReadyH.nil)
      go_simp
      go_at_call 35
      refine (C_laws_toName _ _ x2 (Ty.rd_below (by (repeat' (first | (with_reducible exact Below.refl _ _) | (with_reducible assumption) | (with_reducible refine bel_set ?_ (by (try dsimp only); omega) _) | (with_reducible refine bel_alloc ?_ _) | (with_reducible refine bel_drewN ?_ _) | (with_reducible refine bel_drew ?_) | (with_reducible refine bel_trans ?_ (by assumption)))); done) h2) s2).mono ?_
      rintro e wp2 ⟨csp2, fpp2, rfl, howp2, hfrp2, hbp2⟩
      have hzp2 := hbp2.size
      try simp only [World.size_alloc, World.size_drew, size_drewN] at hzp2
      refine hK.out _ _ ?_ (fun hHeld => ?_)
      · (try dsimp only)
        exact HSp.out _ (by (repeat' (first | (with_reducible exact Below.refl _ _) | (with_reducible assumption) | (with_reducible refine bel_set ?_ (by (try dsimp only); omega) _) | (with_reducible refine bel_alloc ?_ _) | (with_reducible refine bel_drewN ?_ _) | (with_reducible refine bel_drew ?_) | (with_reducible refine bel_trans ?_ (by assumption)))); done)
      clear hK K
      try simp only [Act.put, List.setIfInBounds_toArray, List.set_cons_zero, List.set_cons_succ]
      refine wpAnyH_ready (rs := [7]) (by kernel_rfl) (by simp) ?_
      refine (AllReadyH.cons (opN rfl) (fun K hK => ?_) AllReadyH.nil)
      go_simp
      go_at_call 42
      refine (C_spec_IssueCertificate _ _ x0 _ x1 _ x2 a3 (Ty.rd_below (by (repeat' (first | (with_reducible exact Below.refl _ _) | (with_reducible assumption) | (with_reducible refine bel_set ?_ (by (try dsimp only); omega) _) | (with_reducible refine bel_alloc ?_ _) | (with_reducible refine bel_drewN ?_ _) | (with_reducible refine bel_drew ?_) | (with_reducible refine bel_trans ?_ (by assumption)))); done) (Ty.ow_rd howp0)) (Ty.rd_below (by (repeat' (first | (with_reducible exact Below.refl _ _) | (with_reducible assumption) | (with_reducible refine bel_set ?_ (by (try dsimp only); omega) _) | (with_reducible refine bel_alloc ?_ _) | (with_reducible refine bel_drewN ?_ _) | (with_reducible refine bel_drew ?_) | (with_reducible refine bel_trans ?_ (by assumption)))); done) (Ty.ow_rd howp1)) (Ty.rd_below (by (repeat' (first | (with_reducible exact Below.refl _ _) | (with_reducible assumption) | (with_reducible refine bel_set ?_ (by (try dsimp only); omega) _) | (with_reducible refine bel_alloc ?_ _) | (with_reducible refine bel_drewN ?_ _) | (with_reducible refine bel_drew ?_) | (with_reducible refine bel_trans ?_ (by assumption)))); done) (Ty.ow_rd howp2)) s0 s1 s2 i3).mono ?_
      rintro e w4 ⟨cs4_, fp4, rfl, how4, hfr4, hb4⟩
      obtain ⟨Apq0, cpq0, Apq1, cpq1, Apq2, cpq2, rfl⟩ := ow_Data how4
      have hz4 := hb4.size
      try simp only [World.size_alloc, World.size_drew, size_drewN] at hz4
      refine hK.out _ _ ?_ (fun hHeld => ?_)
      · (try dsimp only)
        exact HSp.out _ (by (repeat' (first | (with_reducible exact Below.refl _ _) | (with_reducible assumption) | (with_reducible refine bel_set ?_ (by (try dsimp only); omega) _) | (with_reducible refine bel_alloc ?_ _) | (with_reducible refine bel_drewN ?_ _) | (with_reducible refine bel_drew ?_) | (with_reducible refine bel_trans ?_ (by assumption)))); done)
      clear hK K
      try simp only [Act.put, List.setIfInBounds_toArray, List.set_cons_zero, List.set_cons_succ]
      refine tk 8 (opN rfl) (by kernel_rfl) (by rfl) (by (intro w hSw; (try dsimp only at hSw); go_simp; first | done | with_reducible rfl)) (by assumption) ?_
      try simp only [Act.put, List.setIfInBounds_toArray, List.set_cons_zero, List.set_cons_succ]
      refine tk 9 (opN rfl) (by kernel_rfl) (by rfl) (by (intro w hSw; (try dsimp only at hSw); go_simp; first | done | with_reducible rfl)) (by assumption) ?_
      try simp only [Act.put, List.setIfInBounds_toArray, List.set_cons_zero, List.set_cons_succ]
      refine tk 10 (opN rfl) (by kernel_rfl) (by rfl) (by (intro w hSw; (try dsimp only at hSw); go_simp; first | done | with_reducible rfl)) (by assumption) ?_
      try simp only [Act.put, List.setIfInBounds_toArray, List.set_cons_zero, List.set_cons_succ]
      have hG : Blk w4 (w3.heap.size) 31 #[.slice none 0 0, .slice none 0 0, .slice none 0 0, .int .i64 0, .int .i64 0] := by
        refine Blk.below (B := _) ?_ hb4 (by (try simp only [World.size_alloc, World.size_setCell, World.size_drew, size_drewN]); omega)
        refine Blk.below (B := _) ?_ hbp2 (by (try simp only [World.size_alloc, World.size_setCell, World.size_drew, size_drewN]); omega)
        refine Blk.below (B := _) ?_ hbp1 (by (try simp only [World.size_alloc, World.size_setCell, World.size_drew, size_drewN]); omega)
        refine Blk.below (B := _) ?_ hbp0 (by (try simp only [World.size_alloc, World.size_setCell, World.size_drew, size_drewN]); omega)
        first | exact Blk.new _ _ _ | exact Blk.drew (Blk.new _ _ _) | exact Blk.drewN (Blk.new _ _ _) _
      have kG0 : w4.cell? ⟨w3.heap.size, 0, none⟩ = some (.slice none 0 0) := hG.cell 0
      have fG0 := hG.frozen 0
      have kG1 : w4.cell? ⟨w3.heap.size, 1, none⟩ = some (.slice none 0 0) := hG.cell 1
      have fG1 := hG.frozen 1
      have kG2 : w4.cell? ⟨w3.heap.size, 2, none⟩ = some (.slice none 0 0) := hG.cell 2
      have fG2 := hG.frozen 2
      have kG3 : w4.cell? ⟨w3.heap.size, 3, none⟩ = some (.int .i64 0) := hG.cell 3
      have fG3 := hG.frozen 3
      have kG4 : w4.cell? ⟨w3.heap.size, 4, none⟩ = some (.int .i64 0) := hG.cell 4
      have fG4 := hG.frozen 4
      have zG := hG.lt
      refine wpAnyH_ready (rs := [12]) (by kernel_rfl) (by simp) ?_
      refine (AllReadyH.cons (opN rfl) (fun K hK => ?_) AllReadyH.nil)
      go_simp
      refine hK.out _ _ ?_ (fun hHeld => ?_)
      · (try dsimp only)
        exact HSp.out _ (by (repeat' (first | (with_reducible exact Below.refl _ _) | (with_reducible assumption) | (with_reducible refine bel_set ?_ (by (try dsimp only); omega) _) | (with_reducible refine bel_alloc ?_ _) | (with_reducible refine bel_drewN ?_ _) | (with_reducible refine bel_drew ?_) | (with_reducible refine bel_trans ?_ (by assumption)))); done)
      clear hK K
      try simp only [Act.put, List.setIfInBounds_toArray, List.set_cons_zero, List.set_cons_succ]
      refine tk 13 (opN rfl) (by kernel_rfl) (by rfl) (by (intro w hSw; (try dsimp only at hSw); go_simp; first | done | with_reducible rfl)) (by assumption) ?_
      try simp only [Act.put, List.setIfInBounds_toArray, List.set_cons_zero, List.set_cons_succ]
      refine wpAnyH_done (by kernel_rfl) ?_ _
      refine NoPanic.normal ?_
      go_wp2_with fail
      go_meet
      refine ⟨_, Apq0, cpq0, Apq1, cpq1, Apq2, cpq2, fp4, rfl, rfl, ?_, ?_, ?_, ?_⟩
      · exact (Blk.set_ (Blk.set_ (Blk.set_ (Blk.set_ (Blk.set_ hG 0 _) 1 _) 2 _) 3 _) 4 _)
      · exact Ty.ow_keep (by intro b hb'; have hb'' := (hfr4).2 b hb'; (try simp only [World.size_alloc, World.size_setCell, size_drewN, World.size_drew] at hb''); repeat (first | (with_reducible rfl) | (rw [Below.heap_setCell _ _ _ _ (by (try dsimp only); omega)]) | (rw [Below.heap_alloc _ _ _ (by (try simp only [World.size_alloc, World.size_setCell]); omega)]))) how4
      · exact hfr4.mono (by (try simp only [World.size_alloc, World.size_setCell, World.size_drew, size_drewN]); omega) (by (try simp only [World.size_alloc, World.size_setCell, World.size_drew, size_drewN]); omega)
      · exact (by (repeat' (first | (with_reducible exact Below.refl _ _) | (with_reducible assumption) | (with_reducible refine bel_set ?_ (by (try dsimp only); omega) _) | (with_reducible refine bel_alloc ?_ _) | (with_reducible refine bel_drewN ?_ _) | (with_reducible refine bel_drew ?_) | (with_reducible refine bel_trans ?_ (by assumption)))); done)
  obtain ⟨w4, hwc⟩ : ∃ w4, w4 = wc := ⟨_, rfl⟩
  subst hwc
  obtain ⟨gW0, Apq0, cpq0, Apq1, cpq1, Apq2, cpq2, fp4, rfl, rfl, hBk4, how4, hfr4, st4⟩ := hcut
  have zz4 : w3.heap.size ≤ w4.heap.size := st4.size
  have vw_4 : Below w.heap.size w w4 := bel_trans vw_3 st4
  have za1_4 : w.heap.size < w4.heap.size := by omega
  have ea1_0_4 : w4.cell? ⟨w.heap.size, 0, none⟩ = some (.slice A10 (List.length x1) c10) := (st4.cell za1_3).trans ea1_0_3
  have za2_4 : w.heap.size + 1 < w4.heap.size := by omega
  have ea2_0_4 : w4.cell? ⟨w.heap.size + 1, 0, none⟩ = some (.slice A20 (List.length x2) c20) := (st4.cell za2_3).trans ea2_0_3
  clear ea1_0_3 ea2_0_3
  have frW0 : FrI (w3.heap.size + 0) w4.heap.size fp4 := hfr4.mono (by (try simp only [World.size_alloc]); omega) (Nat.le_refl _)
  have vW0_4 : Below w4.heap.size w4 w4 := Below.refl _ _
  have zw0_4 : gW0 < w4.heap.size := hBk4.lt
  have ew0_0_4 : w4.cell? ⟨gW0, 0, none⟩ = some (.slice Apq0 (List.length (f0_IssueCertificate x0 x1 x2 a3).1) cpq0) := hBk4.cell 0
  have ew0_1_4 : w4.cell? ⟨gW0, 1, none⟩ = some (.slice Apq1 (List.length (f0_IssueCertificate x0 x1 x2 a3).2.1) cpq1) := hBk4.cell 1
  have ew0_2_4 : w4.cell? ⟨gW0, 2, none⟩ = some (.slice Apq2 (List.length (f0_IssueCertificate x0 x1 x2 a3).2.2.1) cpq2) := hBk4.cell 2
  have ew0_3_4 : w4.cell? ⟨gW0, 3, none⟩ = some (.int .i64 (f0_IssueCertificate x0 x1 x2 a3).2.2.2.1) := hBk4.cell 3
  have ew0_4_4 : w4.cell? ⟨gW0, 4, none⟩ = some (.int .i64 (f0_IssueCertificate x0 x1 x2 a3).2.2.2.2) := hBk4.cell 4
  go_wp2_with fail
  refine (C_laws_toKeyS _ _ x0 (Ty.rd_below (by repeat' (first | (with_reducible exact Below.refl _ _) | (with_reducible assumption) | (with_reducible refine bel_set ?_ (by (try dsimp only); omega) _) | (with_reducible refine bel_alloc ?_ _) | (with_reducible refine bel_drewN ?_ _) | (with_reducible refine bel_drew ?_))) h0) s0).mono ?_
  rintro e w5 ⟨A5_, c5_, fp5, rfl, how5, hfr5, hb5⟩
  have st5 : Below w4.heap.size w4 w5 := bel_trans (by repeat' (first | (with_reducible exact Below.refl _ _) | (with_reducible assumption) | (with_reducible refine bel_set ?_ (by (try dsimp only); omega) _) | (with_reducible refine bel_alloc ?_ _) | (with_reducible refine bel_drewN ?_ _) | (with_reducible refine bel_drew ?_))) hb5
  have zz5 : w4.heap.size + 0 ≤ w5.heap.size := by have := hb5.size; (try simp only [World.size_alloc] at this); omega
  have vw_5 : Below w.heap.size w w5 := bel_trans vw_4 st5
  have vW0_5 : Below w4.heap.size w4 w5 := st5
  have za1_5 : w.heap.size < w5.heap.size := by omega
  have ea1_0_5 : w5.cell? ⟨w.heap.size, 0, none⟩ = some (.slice A10 (List.length x1) c10) := (hb5.cell (by (try simp only [World.size_alloc]); (try dsimp only); omega)).trans ea1_0_4
  have za2_5 : w.heap.size + 1 < w5.heap.size := by omega
  have ea2_0_5 : w5.cell? ⟨w.heap.size + 1, 0, none⟩ = some (.slice A20 (List.length x2) c20) := (hb5.cell (by (try simp only [World.size_alloc]); (try dsimp only); omega)).trans ea2_0_4
  have zw0_5 : gW0 < w5.heap.size := by omega
  have ew0_0_5 : w5.cell? ⟨gW0, 0, none⟩ = some (.slice Apq0 (List.length (f0_IssueCertificate x0 x1 x2 a3).1) cpq0) := (hb5.cell (by (try simp only [World.size_alloc]); (try dsimp only); omega)).trans ew0_0_4
  have ew0_1_5 : w5.cell? ⟨gW0, 1, none⟩ = some (.slice Apq1 (List.length (f0_IssueCertificate x0 x1 x2 a3).2.1) cpq1) := (hb5.cell (by (try simp only [World.size_alloc]); (try dsimp only); omega)).trans ew0_1_4
  have ew0_2_5 : w5.cell? ⟨gW0, 2, none⟩ = some (.slice Apq2 (List.length (f0_IssueCertificate x0 x1 x2 a3).2.2.1) cpq2) := (hb5.cell (by (try simp only [World.size_alloc]); (try dsimp only); omega)).trans ew0_2_4
  have ew0_3_5 : w5.cell? ⟨gW0, 3, none⟩ = some (.int .i64 (f0_IssueCertificate x0 x1 x2 a3).2.2.2.1) := (hb5.cell (by (try simp only [World.size_alloc]); (try dsimp only); omega)).trans ew0_3_4
  have ew0_4_5 : w5.cell? ⟨gW0, 4, none⟩ = some (.int .i64 (f0_IssueCertificate x0 x1 x2 a3).2.2.2.2) := (hb5.cell (by (try simp only [World.size_alloc]); (try dsimp only); omega)).trans ew0_4_4
  clear ea1_0_4 ea2_0_4 ew0_0_4 ew0_1_4 ew0_2_4 ew0_3_4 ew0_4_4
  have frX0 : FrI (w4.heap.size + 0) w5.heap.size fp5 := hfr5.mono (by (try simp only [World.size_alloc]); omega) (Nat.le_refl _)
  have vX0_5 : Below w5.heap.size w5 w5 := Below.refl _ _
  go_wp2_with fail
  refine (C_laws_toName _ _ x1 (Ty.rd_below (by repeat' (first | (with_reducible exact Below.refl _ _) | (with_reducible assumption) | (with_reducible refine bel_set ?_ (by (try dsimp only); omega) _) | (with_reducible refine bel_alloc ?_ _) | (with_reducible refine bel_drewN ?_ _) | (with_reducible refine bel_drew ?_))) h1) s1).mono ?_
  rintro e w6 ⟨cs6_, fp6, rfl, how6, hfr6, hb6⟩
  obtain ⟨A6_0, c6_0, rfl⟩ := Ty.ow_slv how6
  have st6 : Below w5.heap.size w5 w6 := bel_trans (by repeat' (first | (with_reducible exact Below.refl _ _) | (with_reducible assumption) | (with_reducible refine bel_set ?_ (by (try dsimp only); omega) _) | (with_reducible refine bel_alloc ?_ _) | (with_reducible refine bel_drewN ?_ _) | (with_reducible refine bel_drew ?_))) hb6
  have zz6 : w5.heap.size + 0 ≤ w6.heap.size := by have := hb6.size; (try simp only [World.size_alloc] at this); omega
  have vw_6 : Below w.heap.size w w6 := bel_trans vw_5 st6
  have vW0_6 : Below w4.heap.size w4 w6 := bel_trans vW0_5 st6
  have vX0_6 : Below w5.heap.size w5 w6 := st6
  have za1_6 : w.heap.size < w6.heap.size := by omega
  have ea1_0_6 : w6.cell? ⟨w.heap.size, 0, none⟩ = some (.slice A10 (List.length x1) c10) := (hb6.cell (by (try simp only [World.size_alloc]); (try dsimp only); omega)).trans ea1_0_5
  have za2_6 : w.heap.size + 1 < w6.heap.size := by omega
  have ea2_0_6 : w6.cell? ⟨w.heap.size + 1, 0, none⟩ = some (.slice A20 (List.length x2) c20) := (hb6.cell (by (try simp only [World.size_alloc]); (try dsimp only); omega)).trans ea2_0_5
  have zw0_6 : gW0 < w6.heap.size := by omega
  have ew0_0_6 : w6.cell? ⟨gW0, 0, none⟩ = some (.slice Apq0 (List.length (f0_IssueCertificate x0 x1 x2 a3).1) cpq0) := (hb6.cell (by (try simp only [World.size_alloc]); (try dsimp only); omega)).trans ew0_0_5
  have ew0_1_6 : w6.cell? ⟨gW0, 1, none⟩ = some (.slice Apq1 (List.length (f0_IssueCertificate x0 x1 x2 a3).2.1) cpq1) := (hb6.cell (by (try simp only [World.size_alloc]); (try dsimp only); omega)).trans ew0_1_5
  have ew0_2_6 : w6.cell? ⟨gW0, 2, none⟩ = some (.slice Apq2 (List.length (f0_IssueCertificate x0 x1 x2 a3).2.2.1) cpq2) := (hb6.cell (by (try simp only [World.size_alloc]); (try dsimp only); omega)).trans ew0_2_5
  have ew0_3_6 : w6.cell? ⟨gW0, 3, none⟩ = some (.int .i64 (f0_IssueCertificate x0 x1 x2 a3).2.2.2.1) := (hb6.cell (by (try simp only [World.size_alloc]); (try dsimp only); omega)).trans ew0_3_5
  have ew0_4_6 : w6.cell? ⟨gW0, 4, none⟩ = some (.int .i64 (f0_IssueCertificate x0 x1 x2 a3).2.2.2.2) := (hb6.cell (by (try simp only [World.size_alloc]); (try dsimp only); omega)).trans ew0_4_5
  clear ea1_0_5 ea2_0_5 ew0_0_5 ew0_1_5 ew0_2_5 ew0_3_5 ew0_4_5
  have frX1 : FrI (w5.heap.size + 0) w6.heap.size fp6 := hfr6.mono (by (try simp only [World.size_alloc]); omega) (Nat.le_refl _)
  have vX1_6 : Below w6.heap.size w6 w6 := Below.refl _ _
  go_wp2_with fail
  refine (C_laws_toName _ _ x2 (Ty.rd_below (by repeat' (first | (with_reducible exact Below.refl _ _) | (with_reducible assumption) | (with_reducible refine bel_set ?_ (by (try dsimp only); omega) _) | (with_reducible refine bel_alloc ?_ _) | (with_reducible refine bel_drewN ?_ _) | (with_reducible refine bel_drew ?_))) h2) s2).mono ?_
  rintro e w7 ⟨cs7_, fp7, rfl, how7, hfr7, hb7⟩
  obtain ⟨A7_0, c7_0, rfl⟩ := Ty.ow_slv how7
  have st7 : Below w6.heap.size w6 w7 := bel_trans (by repeat' (first | (with_reducible exact Below.refl _ _) | (with_reducible assumption) | (with_reducible refine bel_set ?_ (by (try dsimp only); omega) _) | (with_reducible refine bel_alloc ?_ _) | (with_reducible refine bel_drewN ?_ _) | (with_reducible refine bel_drew ?_))) hb7
  have zz7 : w6.heap.size + 1 ≤ w7.heap.size := by have := hb7.size; (try simp only [World.size_alloc] at this); omega
  have vw_7 : Below w.heap.size w w7 := bel_trans vw_6 st7
  have vW0_7 : Below w4.heap.size w4 w7 := bel_trans vW0_6 st7
  have vX0_7 : Below w5.heap.size w5 w7 := bel_trans vX0_6 st7
  have vX1_7 : Below w6.heap.size w6 w7 := st7
  have za1_7 : w.heap.size < w7.heap.size := by omega
  have ea1_0_7 : w7.cell? ⟨w.heap.size, 0, none⟩ = some (.slice A10 (List.length x1) c10) := (hb7.cell (by (try simp only [World.size_alloc]); (try dsimp only); omega)).trans ((World.cell?_alloc_lt _ _ _ (by (try simp only [World.size_alloc]); (try dsimp only); omega)).trans ea1_0_6)
  have za2_7 : w.heap.size + 1 < w7.heap.size := by omega
  have ea2_0_7 : w7.cell? ⟨w.heap.size + 1, 0, none⟩ = some (.slice A20 (List.length x2) c20) := (hb7.cell (by (try simp only [World.size_alloc]); (try dsimp only); omega)).trans ((World.cell?_alloc_lt _ _ _ (by (try simp only [World.size_alloc]); (try dsimp only); omega)).trans ea2_0_6)
  have zw0_7 : gW0 < w7.heap.size := by omega
  have ew0_0_7 : w7.cell? ⟨gW0, 0, none⟩ = some (.slice Apq0 (List.length (f0_IssueCertificate x0 x1 x2 a3).1) cpq0) := (hb7.cell (by (try simp only [World.size_alloc]); (try dsimp only); omega)).trans ((World.cell?_alloc_lt _ _ _ (by (try simp only [World.size_alloc]); (try dsimp only); omega)).trans ew0_0_6)
  have ew0_1_7 : w7.cell? ⟨gW0, 1, none⟩ = some (.slice Apq1 (List.length (f0_IssueCertificate x0 x1 x2 a3).2.1) cpq1) := (hb7.cell (by (try simp only [World.size_alloc]); (try dsimp only); omega)).trans ((World.cell?_alloc_lt _ _ _ (by (try simp only [World.size_alloc]); (try dsimp only); omega)).trans ew0_1_6)
  have ew0_2_7 : w7.cell? ⟨gW0, 2, none⟩ = some (.slice Apq2 (List.length (f0_IssueCertificate x0 x1 x2 a3).2.2.1) cpq2) := (hb7.cell (by (try simp only [World.size_alloc]); (try dsimp only); omega)).trans ((World.cell?_alloc_lt _ _ _ (by (try simp only [World.size_alloc]); (try dsimp only); omega)).trans ew0_2_6)
  have ew0_3_7 : w7.cell? ⟨gW0, 3, none⟩ = some (.int .i64 (f0_IssueCertificate x0 x1 x2 a3).2.2.2.1) := (hb7.cell (by (try simp only [World.size_alloc]); (try dsimp only); omega)).trans ((World.cell?_alloc_lt _ _ _ (by (try simp only [World.size_alloc]); (try dsimp only); omega)).trans ew0_3_6)
  have ew0_4_7 : w7.cell? ⟨gW0, 4, none⟩ = some (.int .i64 (f0_IssueCertificate x0 x1 x2 a3).2.2.2.2) := (hb7.cell (by (try simp only [World.size_alloc]); (try dsimp only); omega)).trans ((World.cell?_alloc_lt _ _ _ (by (try simp only [World.size_alloc]); (try dsimp only); omega)).trans ew0_4_6)
  have zx1_7 : w6.heap.size < w7.heap.size := by omega
  have ex1_0_7 : w7.cell? ⟨w6.heap.size, 0, none⟩ = some (.slice A6_0 (List.length x1) c6_0) := (hb7.cell (by (try simp only [World.size_alloc]); (try dsimp only); omega)).trans ((cell_new w6 29 #[.slice A6_0 (List.length x1) c6_0] 0 (by first | rfl | (simp only [World.size_alloc]))) : _ = some (Value.slice A6_0 (List.length x1) c6_0))
  clear ea1_0_6 ea2_0_6 ew0_0_6 ew0_1_6 ew0_2_6 ew0_3_6 ew0_4_6
  have frX2 : FrI (w6.heap.size + 1) w7.heap.size fp7 := hfr7.mono (by (try simp only [World.size_alloc]); omega) (Nat.le_refl _)
  have vX2_7 : Below w7.heap.size w7 w7 := Below.refl _ _
  go_wp2_with fail
  refine (C_impl_IssueCertificate _ _ x0 _ x1 _ x2 a3 (Ty.ow_rd (Ty.ow_bel (by repeat' (first | (with_reducible exact Below.refl _ _) | (with_reducible assumption) | (with_reducible refine bel_set ?_ (by (try dsimp only); omega) _) | (with_reducible refine bel_alloc ?_ _) | (with_reducible refine bel_drewN ?_ _) | (with_reducible refine bel_drew ?_))) how5)) (Ty.ow_rd (Ty.ow_bel (by repeat' (first | (with_reducible exact Below.refl _ _) | (with_reducible assumption) | (with_reducible refine bel_set ?_ (by (try dsimp only); omega) _) | (with_reducible refine bel_alloc ?_ _) | (with_reducible refine bel_drewN ?_ _) | (with_reducible refine bel_drew ?_))) how6)) (Ty.ow_rd (Ty.ow_bel (by repeat' (first | (with_reducible exact Below.refl _ _) | (with_reducible assumption) | (with_reducible refine bel_set ?_ (by (try dsimp only); omega) _) | (with_reducible refine bel_alloc ?_ _) | (with_reducible refine bel_drewN ?_ _) | (with_reducible refine bel_drew ?_))) how7)) s0 s1 s2 i3).mono ?_
  rintro e w8 ⟨cs8_, fp8, rfl, how8, hfr8, hb8⟩
  have st8 : Below w7.heap.size w7 w8 := bel_trans (by repeat' (first | (with_reducible exact Below.refl _ _) | (with_reducible assumption) | (with_reducible refine bel_set ?_ (by (try dsimp only); omega) _) | (with_reducible refine bel_alloc ?_ _) | (with_reducible refine bel_drewN ?_ _) | (with_reducible refine bel_drew ?_))) hb8
  have zz8 : w7.heap.size + 1 ≤ w8.heap.size := by have := hb8.size; (try simp only [World.size_alloc] at this); omega
  have vw_8 : Below w.heap.size w w8 := bel_trans vw_7 st8
  have vW0_8 : Below w4.heap.size w4 w8 := bel_trans vW0_7 st8
  have vX0_8 : Below w5.heap.size w5 w8 := bel_trans vX0_7 st8
  have vX1_8 : Below w6.heap.size w6 w8 := bel_trans vX1_7 st8
  have vX2_8 : Below w7.heap.size w7 w8 := st8
  have za1_8 : w.heap.size < w8.heap.size := by omega
  have ea1_0_8 : w8.cell? ⟨w.heap.size, 0, none⟩ = some (.slice A10 (List.length x1) c10) := (hb8.cell (by (try simp only [World.size_alloc]); (try dsimp only); omega)).trans ((World.cell?_alloc_lt _ _ _ (by (try simp only [World.size_alloc]); (try dsimp only); omega)).trans ea1_0_7)
  have za2_8 : w.heap.size + 1 < w8.heap.size := by omega
  have ea2_0_8 : w8.cell? ⟨w.heap.size + 1, 0, none⟩ = some (.slice A20 (List.length x2) c20) := (hb8.cell (by (try simp only [World.size_alloc]); (try dsimp only); omega)).trans ((World.cell?_alloc_lt _ _ _ (by (try simp only [World.size_alloc]); (try dsimp only); omega)).trans ea2_0_7)
  have zw0_8 : gW0 < w8.heap.size := by omega
  have ew0_0_8 : w8.cell? ⟨gW0, 0, none⟩ = some (.slice Apq0 (List.length (f0_IssueCertificate x0 x1 x2 a3).1) cpq0) := (hb8.cell (by (try simp only [World.size_alloc]); (try dsimp only); omega)).trans ((World.cell?_alloc_lt _ _ _ (by (try simp only [World.size_alloc]); (try dsimp only); omega)).trans ew0_0_7)
  have ew0_1_8 : w8.cell? ⟨gW0, 1, none⟩ = some (.slice Apq1 (List.length (f0_IssueCertificate x0 x1 x2 a3).2.1) cpq1) := (hb8.cell (by (try simp only [World.size_alloc]); (try dsimp only); omega)).trans ((World.cell?_alloc_lt _ _ _ (by (try simp only [World.size_alloc]); (try dsimp only); omega)).trans ew0_1_7)
  have ew0_2_8 : w8.cell? ⟨gW0, 2, none⟩ = some (.slice Apq2 (List.length (f0_IssueCertificate x0 x1 x2 a3).2.2.1) cpq2) := (hb8.cell (by (try simp only [World.size_alloc]); (try dsimp only); omega)).trans ((World.cell?_alloc_lt _ _ _ (by (try simp only [World.size_alloc]); (try dsimp only); omega)).trans ew0_2_7)
  have ew0_3_8 : w8.cell? ⟨gW0, 3, none⟩ = some (.int .i64 (f0_IssueCertificate x0 x1 x2 a3).2.2.2.1) := (hb8.cell (by (try simp only [World.size_alloc]); (try dsimp only); omega)).trans ((World.cell?_alloc_lt _ _ _ (by (try simp only [World.size_alloc]); (try dsimp only); omega)).trans ew0_3_7)
  have ew0_4_8 : w8.cell? ⟨gW0, 4, none⟩ = some (.int .i64 (f0_IssueCertificate x0 x1 x2 a3).2.2.2.2) := (hb8.cell (by (try simp only [World.size_alloc]); (try dsimp only); omega)).trans ((World.cell?_alloc_lt _ _ _ (by (try simp only [World.size_alloc]); (try dsimp only); omega)).trans ew0_4_7)
  have zx1_8 : w6.heap.size < w8.heap.size := by omega
  have ex1_0_8 : w8.cell? ⟨w6.heap.size, 0, none⟩ = some (.slice A6_0 (List.length x1) c6_0) := (hb8.cell (by (try simp only [World.size_alloc]); (try dsimp only); omega)).trans ((World.cell?_alloc_lt _ _ _ (by (try simp only [World.size_alloc]); (try dsimp only); omega)).trans ex1_0_7)
  have zx2_8 : w7.heap.size < w8.heap.size := by omega
  have ex2_0_8 : w8.cell? ⟨w7.heap.size, 0, none⟩ = some (.slice A7_0 (List.length x2) c7_0) := (hb8.cell (by (try simp only [World.size_alloc]); (try dsimp only); omega)).trans ((cell_new w7 29 #[.slice A7_0 (List.length x2) c7_0] 0 (by first | rfl | (simp only [World.size_alloc]))) : _ = some (Value.slice A7_0 (List.length x2) c7_0))
  clear ea1_0_7 ea2_0_7 ew0_0_7 ew0_1_7 ew0_2_7 ew0_3_7 ew0_4_7 ex1_0_7
  obtain ⟨A8_0, c8_0, A8_1, c8_1, A8_2, c8_2, rfl⟩ := ow_Data how8
  have frG0 : FrI (w7.heap.size + 1) w8.heap.size fp8 := hfr8.mono (by (try simp only [World.size_alloc]); omega) (Nat.le_refl _)
  have vG0_8 : Below w8.heap.size w8 w8 := Below.refl _ _
  have hq1 : ((f1_IssueCertificate x0 x1 x2 a3) != (f1_IssueCertificate x0 x1 x2 a3)) = false := by simp
  go_wp2_with fail
  refine (C_laws_eqData _ _ _ (f0_IssueCertificate x0 x1 x2 a3) (Ty.ow_rd (Ty.ow_bel (by repeat' (first | (with_reducible exact Below.refl _ _) | (with_reducible assumption) | (with_reducible refine bel_set ?_ (by (try dsimp only); omega) _) | (with_reducible refine bel_alloc ?_ _) | (with_reducible refine bel_drewN ?_ _) | (with_reducible refine bel_drew ?_))) how8)) (Ty.ow_rd (Ty.ow_bel (by repeat' (first | (with_reducible exact Below.refl _ _) | (with_reducible assumption) | (with_reducible refine bel_set ?_ (by (try dsimp only); omega) _) | (with_reducible refine bel_alloc ?_ _) | (with_reducible refine bel_drewN ?_ _) | (with_reducible refine bel_drew ?_))) how4))).mono ?_
  rintro e w9 ⟨rfl, hb9⟩
  have st9 : Below w8.heap.size w8 w9 := bel_trans (by repeat' (first | (with_reducible exact Below.refl _ _) | (with_reducible assumption) | (with_reducible refine bel_set ?_ (by (try dsimp only); omega) _) | (with_reducible refine bel_alloc ?_ _) | (with_reducible refine bel_drewN ?_ _) | (with_reducible refine bel_drew ?_))) hb9
  have zz9 : w8.heap.size + 1 ≤ w9.heap.size := by have := hb9.size; (try simp only [World.size_alloc] at this); omega
  have vw_9 : Below w.heap.size w w9 := bel_trans vw_8 st9
  have vW0_9 : Below w4.heap.size w4 w9 := bel_trans vW0_8 st9
  have vX0_9 : Below w5.heap.size w5 w9 := bel_trans vX0_8 st9
  have vX1_9 : Below w6.heap.size w6 w9 := bel_trans vX1_8 st9
  have vX2_9 : Below w7.heap.size w7 w9 := bel_trans vX2_8 st9
  have vG0_9 : Below w8.heap.size w8 w9 := st9
  have za1_9 : w.heap.size < w9.heap.size := by omega
  have ea1_0_9 : w9.cell? ⟨w.heap.size, 0, none⟩ = some (.slice A10 (List.length x1) c10) := (hb9.cell (by (try simp only [World.size_alloc]); (try dsimp only); omega)).trans ((World.cell?_alloc_lt _ _ _ (by (try simp only [World.size_alloc]); (try dsimp only); omega)).trans ea1_0_8)
  have za2_9 : w.heap.size + 1 < w9.heap.size := by omega
  have ea2_0_9 : w9.cell? ⟨w.heap.size + 1, 0, none⟩ = some (.slice A20 (List.length x2) c20) := (hb9.cell (by (try simp only [World.size_alloc]); (try dsimp only); omega)).trans ((World.cell?_alloc_lt _ _ _ (by (try simp only [World.size_alloc]); (try dsimp only); omega)).trans ea2_0_8)
  have zw0_9 : gW0 < w9.heap.size := by omega
  have ew0_0_9 : w9.cell? ⟨gW0, 0, none⟩ = some (.slice Apq0 (List.length (f0_IssueCertificate x0 x1 x2 a3).1) cpq0) := (hb9.cell (by (try simp only [World.size_alloc]); (try dsimp only); omega)).trans ((World.cell?_alloc_lt _ _ _ (by (try simp only [World.size_alloc]); (try dsimp only); omega)).trans ew0_0_8)
  have ew0_1_9 : w9.cell? ⟨gW0, 1, none⟩ = some (.slice Apq1 (List.length (f0_IssueCertificate x0 x1 x2 a3).2.1) cpq1) := (hb9.cell (by (try simp only [World.size_alloc]); (try dsimp only); omega)).trans ((World.cell?_alloc_lt _ _ _ (by (try simp only [World.size_alloc]); (try dsimp only); omega)).trans ew0_1_8)
  have ew0_2_9 : w9.cell? ⟨gW0, 2, none⟩ = some (.slice Apq2 (List.length (f0_IssueCertificate x0 x1 x2 a3).2.2.1) cpq2) := (hb9.cell (by (try simp only [World.size_alloc]); (try dsimp only); omega)).trans ((World.cell?_alloc_lt _ _ _ (by (try simp only [World.size_alloc]); (try dsimp only); omega)).trans ew0_2_8)
  have ew0_3_9 : w9.cell? ⟨gW0, 3, none⟩ = some (.int .i64 (f0_IssueCertificate x0 x1 x2 a3).2.2.2.1) := (hb9.cell (by (try simp only [World.size_alloc]); (try dsimp only); omega)).trans ((World.cell?_alloc_lt _ _ _ (by (try simp only [World.size_alloc]); (try dsimp only); omega)).trans ew0_3_8)
  have ew0_4_9 : w9.cell? ⟨gW0, 4, none⟩ = some (.int .i64 (f0_IssueCertificate x0 x1 x2 a3).2.2.2.2) := (hb9.cell (by (try simp only [World.size_alloc]); (try dsimp only); omega)).trans ((World.cell?_alloc_lt _ _ _ (by (try simp only [World.size_alloc]); (try dsimp only); omega)).trans ew0_4_8)
  have zx1_9 : w6.heap.size < w9.heap.size := by omega
  have ex1_0_9 : w9.cell? ⟨w6.heap.size, 0, none⟩ = some (.slice A6_0 (List.length x1) c6_0) := (hb9.cell (by (try simp only [World.size_alloc]); (try dsimp only); omega)).trans ((World.cell?_alloc_lt _ _ _ (by (try simp only [World.size_alloc]); (try dsimp only); omega)).trans ex1_0_8)
  have zx2_9 : w7.heap.size < w9.heap.size := by omega
  have ex2_0_9 : w9.cell? ⟨w7.heap.size, 0, none⟩ = some (.slice A7_0 (List.length x2) c7_0) := (hb9.cell (by (try simp only [World.size_alloc]); (try dsimp only); omega)).trans ((World.cell?_alloc_lt _ _ _ (by (try simp only [World.size_alloc]); (try dsimp only); omega)).trans ex2_0_8)
  have zg0_9 : w8.heap.size < w9.heap.size := by omega
  have eg0_0_9 : w9.cell? ⟨w8.heap.size, 0, none⟩ = some (.slice A8_0 (List.length (f0_IssueCertificate x0 x1 x2 a3).1) c8_0) := (hb9.cell (by (try simp only [World.size_alloc]); (try dsimp only); omega)).trans ((cell_new w8 31 #[.slice A8_0 (List.length (f0_IssueCertificate x0 x1 x2 a3).1) c8_0, .slice A8_1 (List.length (f0_IssueCertificate x0 x1 x2 a3).2.1) c8_1, .slice A8_2 (List.length (f0_IssueCertificate x0 x1 x2 a3).2.2.1) c8_2, .int .i64 (f0_IssueCertificate x0 x1 x2 a3).2.2.2.1, .int .i64 (f0_IssueCertificate x0 x1 x2 a3).2.2.2.2] 0 (by first | rfl | (simp only [World.size_alloc]))) : _ = some (Value.slice A8_0 (List.length (f0_IssueCertificate x0 x1 x2 a3).1) c8_0))
  have eg0_1_9 : w9.cell? ⟨w8.heap.size, 1, none⟩ = some (.slice A8_1 (List.length (f0_IssueCertificate x0 x1 x2 a3).2.1) c8_1) := (hb9.cell (by (try simp only [World.size_alloc]); (try dsimp only); omega)).trans ((cell_new w8 31 #[.slice A8_0 (List.length (f0_IssueCertificate x0 x1 x2 a3).1) c8_0, .slice A8_1 (List.length (f0_IssueCertificate x0 x1 x2 a3).2.1) c8_1, .slice A8_2 (List.length (f0_IssueCertificate x0 x1 x2 a3).2.2.1) c8_2, .int .i64 (f0_IssueCertificate x0 x1 x2 a3).2.2.2.1, .int .i64 (f0_IssueCertificate x0 x1 x2 a3).2.2.2.2] 1 (by first | rfl | (simp only [World.size_alloc]))) : _ = some (Value.slice A8_1 (List.length (f0_IssueCertificate x0 x1 x2 a3).2.1) c8_1))
  have eg0_2_9 : w9.cell? ⟨w8.heap.size, 2, none⟩ = some (.slice A8_2 (List.length (f0_IssueCertificate x0 x1 x2 a3).2.2.1) c8_2) := (hb9.cell (by (try simp only [World.size_alloc]); (try dsimp only); omega)).trans ((cell_new w8 31 #[.slice A8_0 (List.length (f0_IssueCertificate x0 x1 x2 a3).1) c8_0, .slice A8_1 (List.length (f0_IssueCertificate x0 x1 x2 a3).2.1) c8_1, .slice A8_2 (List.length (f0_IssueCertificate x0 x1 x2 a3).2.2.1) c8_2, .int .i64 (f0_IssueCertificate x0 x1 x2 a3).2.2.2.1, .int .i64 (f0_IssueCertificate x0 x1 x2 a3).2.2.2.2] 2 (by first | rfl | (simp only [World.size_alloc]))) : _ = some (Value.slice A8_2 (List.length (f0_IssueCertificate x0 x1 x2 a3).2.2.1) c8_2))
  have eg0_3_9 : w9.cell? ⟨w8.heap.size, 3, none⟩ = some (.int .i64 (f0_IssueCertificate x0 x1 x2 a3).2.2.2.1) := (hb9.cell (by (try simp only [World.size_alloc]); (try dsimp only); omega)).trans ((cell_new w8 31 #[.slice A8_0 (List.length (f0_IssueCertificate x0 x1 x2 a3).1) c8_0, .slice A8_1 (List.length (f0_IssueCertificate x0 x1 x2 a3).2.1) c8_1, .slice A8_2 (List.length (f0_IssueCertificate x0 x1 x2 a3).2.2.1) c8_2, .int .i64 (f0_IssueCertificate x0 x1 x2 a3).2.2.2.1, .int .i64 (f0_IssueCertificate x0 x1 x2 a3).2.2.2.2] 3 (by first | rfl | (simp only [World.size_alloc]))) : _ = some (Value.int .i64 (f0_IssueCertificate x0 x1 x2 a3).2.2.2.1))
  have eg0_4_9 : w9.cell? ⟨w8.heap.size, 4, none⟩ = some (.int .i64 (f0_IssueCertificate x0 x1 x2 a3).2.2.2.2) := (hb9.cell (by (try simp only [World.size_alloc]); (try dsimp only); omega)).trans ((cell_new w8 31 #[.slice A8_0 (List.length (f0_IssueCertificate x0 x1 x2 a3).1) c8_0, .slice A8_1 (List.length (f0_IssueCertificate x0 x1 x2 a3).2.1) c8_1, .slice A8_2 (List.length (f0_IssueCertificate x0 x1 x2 a3).2.2.1) c8_2, .int .i64 (f0_IssueCertificate x0 x1 x2 a3).2.2.2.1, .int .i64 (f0_IssueCertificate x0 x1 x2 a3).2.2.2.2] 4 (by first | rfl | (simp only [World.size_alloc]))) : _ = some (Value.int .i64 (f0_IssueCertificate x0 x1 x2 a3).2.2.2.2))
  clear ea1_0_8 ea2_0_8 ew0_0_8 ew0_1_8 ew0_2_8 ew0_3_8 ew0_4_8 ex1_0_8 ex2_0_8
  go_wp2_with fail
  refine (C_laws_toKeyS _ _ x0 (Ty.rd_below (by repeat' (first | (with_reducible exact Below.refl _ _) | (with_reducible assumption) | (with_reducible refine bel_set ?_ (by (try dsimp only); omega) _) | (with_reducible refine bel_alloc ?_ _) | (with_reducible refine bel_drewN ?_ _) | (with_reducible refine bel_drew ?_))) h0) s0).mono ?_
  rintro e w10 ⟨A10_, c10_, fp10, rfl, how10, hfr10, hb10⟩
  have st10 : Below w9.heap.size w9 w10 := bel_trans (by repeat' (first | (with_reducible exact Below.refl _ _) | (with_reducible assumption) | (with_reducible refine bel_set ?_ (by (try dsimp only); omega) _) | (with_reducible refine bel_alloc ?_ _) | (with_reducible refine bel_drewN ?_ _) | (with_reducible refine bel_drew ?_))) hb10
  have zz10 : w9.heap.size + 0 ≤ w10.heap.size := by have := hb10.size; (try simp only [World.size_alloc] at this); omega
  have vw_10 : Below w.heap.size w w10 := bel_trans vw_9 st10
  have vW0_10 : Below w4.heap.size w4 w10 := bel_trans vW0_9 st10
  have vX0_10 : Below w5.heap.size w5 w10 := bel_trans vX0_9 st10
  have vX1_10 : Below w6.heap.size w6 w10 := bel_trans vX1_9 st10
  have vX2_10 : Below w7.heap.size w7 w10 := bel_trans vX2_9 st10
  have vG0_10 : Below w8.heap.size w8 w10 := bel_trans vG0_9 st10
  have za1_10 : w.heap.size < w10.heap.size := by omega
  have ea1_0_10 : w10.cell? ⟨w.heap.size, 0, none⟩ = some (.slice A10 (List.length x1) c10) := (hb10.cell (by (try simp only [World.size_alloc]); (try dsimp only); omega)).trans ea1_0_9
  have za2_10 : w.heap.size + 1 < w10.heap.size := by omega
  have ea2_0_10 : w10.cell? ⟨w.heap.size + 1, 0, none⟩ = some (.slice A20 (List.length x2) c20) := (hb10.cell (by (try simp only [World.size_alloc]); (try dsimp only); omega)).trans ea2_0_9
  have zw0_10 : gW0 < w10.heap.size := by omega
  have ew0_0_10 : w10.cell? ⟨gW0, 0, none⟩ = some (.slice Apq0 (List.length (f0_IssueCertificate x0 x1 x2 a3).1) cpq0) := (hb10.cell (by (try simp only [World.size_alloc]); (try dsimp only); omega)).trans ew0_0_9
  have ew0_1_10 : w10.cell? ⟨gW0, 1, none⟩ = some (.slice Apq1 (List.length (f0_IssueCertificate x0 x1 x2 a3).2.1) cpq1) := (hb10.cell (by (try simp only [World.size_alloc]); (try dsimp only); omega)).trans ew0_1_9
  have ew0_2_10 : w10.cell? ⟨gW0, 2, none⟩ = some (.slice Apq2 (List.length (f0_IssueCertificate x0 x1 x2 a3).2.2.1) cpq2) := (hb10.cell (by (try simp only [World.size_alloc]); (try dsimp only); omega)).trans ew0_2_9
  have ew0_3_10 : w10.cell? ⟨gW0, 3, none⟩ = some (.int .i64 (f0_IssueCertificate x0 x1 x2 a3).2.2.2.1) := (hb10.cell (by (try simp only [World.size_alloc]); (try dsimp only); omega)).trans ew0_3_9
  have ew0_4_10 : w10.cell? ⟨gW0, 4, none⟩ = some (.int .i64 (f0_IssueCertificate x0 x1 x2 a3).2.2.2.2) := (hb10.cell (by (try simp only [World.size_alloc]); (try dsimp only); omega)).trans ew0_4_9
  have zx1_10 : w6.heap.size < w10.heap.size := by omega
  have ex1_0_10 : w10.cell? ⟨w6.heap.size, 0, none⟩ = some (.slice A6_0 (List.length x1) c6_0) := (hb10.cell (by (try simp only [World.size_alloc]); (try dsimp only); omega)).trans ex1_0_9
  have zx2_10 : w7.heap.size < w10.heap.size := by omega
  have ex2_0_10 : w10.cell? ⟨w7.heap.size, 0, none⟩ = some (.slice A7_0 (List.length x2) c7_0) := (hb10.cell (by (try simp only [World.size_alloc]); (try dsimp only); omega)).trans ex2_0_9
  have zg0_10 : w8.heap.size < w10.heap.size := by omega
  have eg0_0_10 : w10.cell? ⟨w8.heap.size, 0, none⟩ = some (.slice A8_0 (List.length (f0_IssueCertificate x0 x1 x2 a3).1) c8_0) := (hb10.cell (by (try simp only [World.size_alloc]); (try dsimp only); omega)).trans eg0_0_9
  have eg0_1_10 : w10.cell? ⟨w8.heap.size, 1, none⟩ = some (.slice A8_1 (List.length (f0_IssueCertificate x0 x1 x2 a3).2.1) c8_1) := (hb10.cell (by (try simp only [World.size_alloc]); (try dsimp only); omega)).trans eg0_1_9
  have eg0_2_10 : w10.cell? ⟨w8.heap.size, 2, none⟩ = some (.slice A8_2 (List.length (f0_IssueCertificate x0 x1 x2 a3).2.2.1) c8_2) := (hb10.cell (by (try simp only [World.size_alloc]); (try dsimp only); omega)).trans eg0_2_9
  have eg0_3_10 : w10.cell? ⟨w8.heap.size, 3, none⟩ = some (.int .i64 (f0_IssueCertificate x0 x1 x2 a3).2.2.2.1) := (hb10.cell (by (try simp only [World.size_alloc]); (try dsimp only); omega)).trans eg0_3_9
  have eg0_4_10 : w10.cell? ⟨w8.heap.size, 4, none⟩ = some (.int .i64 (f0_IssueCertificate x0 x1 x2 a3).2.2.2.2) := (hb10.cell (by (try simp only [World.size_alloc]); (try dsimp only); omega)).trans eg0_4_9
  clear ea1_0_9 ea2_0_9 ew0_0_9 ew0_1_9 ew0_2_9 ew0_3_9 ew0_4_9 ex1_0_9 ex2_0_9 eg0_0_9 eg0_1_9 eg0_2_9 eg0_3_9 eg0_4_9
  go_wp2_with fail
  refine (C_laws_eqKeyS _ _ _ x0 (Ty.ow_rd (Ty.ow_bel (by repeat' (first | (with_reducible exact Below.refl _ _) | (with_reducible assumption) | (with_reducible refine bel_set ?_ (by (try dsimp only); omega) _) | (with_reducible refine bel_alloc ?_ _) | (with_reducible refine bel_drewN ?_ _) | (with_reducible refine bel_drew ?_))) how5)) (Ty.ow_rd how10)).mono ?_
  rintro e w11 ⟨rfl, hb11⟩
  have st11 : Below w10.heap.size w10 w11 := bel_trans (by repeat' (first | (with_reducible exact Below.refl _ _) | (with_reducible assumption) | (with_reducible refine bel_set ?_ (by (try dsimp only); omega) _) | (with_reducible refine bel_alloc ?_ _) | (with_reducible refine bel_drewN ?_ _) | (with_reducible refine bel_drew ?_))) hb11
  have zz11 : w10.heap.size + 0 ≤ w11.heap.size := by have := hb11.size; (try simp only [World.size_alloc] at this); omega
  have vw_11 : Below w.heap.size w w11 := bel_trans vw_10 st11
  have vW0_11 : Below w4.heap.size w4 w11 := bel_trans vW0_10 st11
  have vX0_11 : Below w5.heap.size w5 w11 := bel_trans vX0_10 st11
  have vX1_11 : Below w6.heap.size w6 w11 := bel_trans vX1_10 st11
  have vX2_11 : Below w7.heap.size w7 w11 := bel_trans vX2_10 st11
  have vG0_11 : Below w8.heap.size w8 w11 := bel_trans vG0_10 st11
  have za1_11 : w.heap.size < w11.heap.size := by omega
  have ea1_0_11 : w11.cell? ⟨w.heap.size, 0, none⟩ = some (.slice A10 (List.length x1) c10) := (hb11.cell (by (try simp only [World.size_alloc]); (try dsimp only); omega)).trans ea1_0_10
  have za2_11 : w.heap.size + 1 < w11.heap.size := by omega
  have ea2_0_11 : w11.cell? ⟨w.heap.size + 1, 0, none⟩ = some (.slice A20 (List.length x2) c20) := (hb11.cell (by (try simp only [World.size_alloc]); (try dsimp only); omega)).trans ea2_0_10
  have zw0_11 : gW0 < w11.heap.size := by omega
  have ew0_0_11 : w11.cell? ⟨gW0, 0, none⟩ = some (.slice Apq0 (List.length (f0_IssueCertificate x0 x1 x2 a3).1) cpq0) := (hb11.cell (by (try simp only [World.size_alloc]); (try dsimp only); omega)).trans ew0_0_10
  have ew0_1_11 : w11.cell? ⟨gW0, 1, none⟩ = some (.slice Apq1 (List.length (f0_IssueCertificate x0 x1 x2 a3).2.1) cpq1) := (hb11.cell (by (try simp only [World.size_alloc]); (try dsimp only); omega)).trans ew0_1_10
  have ew0_2_11 : w11.cell? ⟨gW0, 2, none⟩ = some (.slice Apq2 (List.length (f0_IssueCertificate x0 x1 x2 a3).2.2.1) cpq2) := (hb11.cell (by (try simp only [World.size_alloc]); (try dsimp only); omega)).trans ew0_2_10
  have ew0_3_11 : w11.cell? ⟨gW0, 3, none⟩ = some (.int .i64 (f0_IssueCertificate x0 x1 x2 a3).2.2.2.1) := (hb11.cell (by (try simp only [World.size_alloc]); (try dsimp only); omega)).trans ew0_3_10
  have ew0_4_11 : w11.cell? ⟨gW0, 4, none⟩ = some (.int .i64 (f0_IssueCertificate x0 x1 x2 a3).2.2.2.2) := (hb11.cell (by (try simp only [World.size_alloc]); (try dsimp only); omega)).trans ew0_4_10
  have zx1_11 : w6.heap.size < w11.heap.size := by omega
  have ex1_0_11 : w11.cell? ⟨w6.heap.size, 0, none⟩ = some (.slice A6_0 (List.length x1) c6_0) := (hb11.cell (by (try simp only [World.size_alloc]); (try dsimp only); omega)).trans ex1_0_10
  have zx2_11 : w7.heap.size < w11.heap.size := by omega
  have ex2_0_11 : w11.cell? ⟨w7.heap.size, 0, none⟩ = some (.slice A7_0 (List.length x2) c7_0) := (hb11.cell (by (try simp only [World.size_alloc]); (try dsimp only); omega)).trans ex2_0_10
  have zg0_11 : w8.heap.size < w11.heap.size := by omega
  have eg0_0_11 : w11.cell? ⟨w8.heap.size, 0, none⟩ = some (.slice A8_0 (List.length (f0_IssueCertificate x0 x1 x2 a3).1) c8_0) := (hb11.cell (by (try simp only [World.size_alloc]); (try dsimp only); omega)).trans eg0_0_10
  have eg0_1_11 : w11.cell? ⟨w8.heap.size, 1, none⟩ = some (.slice A8_1 (List.length (f0_IssueCertificate x0 x1 x2 a3).2.1) c8_1) := (hb11.cell (by (try simp only [World.size_alloc]); (try dsimp only); omega)).trans eg0_1_10
  have eg0_2_11 : w11.cell? ⟨w8.heap.size, 2, none⟩ = some (.slice A8_2 (List.length (f0_IssueCertificate x0 x1 x2 a3).2.2.1) c8_2) := (hb11.cell (by (try simp only [World.size_alloc]); (try dsimp only); omega)).trans eg0_2_10
  have eg0_3_11 : w11.cell? ⟨w8.heap.size, 3, none⟩ = some (.int .i64 (f0_IssueCertificate x0 x1 x2 a3).2.2.2.1) := (hb11.cell (by (try simp only [World.size_alloc]); (try dsimp only); omega)).trans eg0_3_10
  have eg0_4_11 : w11.cell? ⟨w8.heap.size, 4, none⟩ = some (.int .i64 (f0_IssueCertificate x0 x1 x2 a3).2.2.2.2) := (hb11.cell (by (try simp only [World.size_alloc]); (try dsimp only); omega)).trans eg0_4_10
  clear ea1_0_10 ea2_0_10 ew0_0_10 ew0_1_10 ew0_2_10 ew0_3_10 ew0_4_10 ex1_0_10 ex2_0_10 eg0_0_10 eg0_1_10 eg0_2_10 eg0_3_10 eg0_4_10
  have HSq1 : Hid (∀ W, Below w11.heap.size w11 W → Below w11.heap.size w11 W ∧ W.cell? ⟨w.heap.size, 0, none⟩ = some (.slice A10 (List.length x1) c10) ∧ W.cell? ⟨w.heap.size + 1, 0, none⟩ = some (.slice A20 (List.length x2) c20) ∧ W.cell? ⟨gW0, 0, none⟩ = some (.slice Apq0 (List.length (f0_IssueCertificate x0 x1 x2 a3).1) cpq0) ∧ W.cell? ⟨gW0, 1, none⟩ = some (.slice Apq1 (List.length (f0_IssueCertificate x0 x1 x2 a3).2.1) cpq1) ∧ W.cell? ⟨gW0, 2, none⟩ = some (.slice Apq2 (List.length (f0_IssueCertificate x0 x1 x2 a3).2.2.1) cpq2) ∧ W.cell? ⟨gW0, 3, none⟩ = some (.int .i64 (f0_IssueCertificate x0 x1 x2 a3).2.2.2.1) ∧ W.cell? ⟨gW0, 4, none⟩ = some (.int .i64 (f0_IssueCertificate x0 x1 x2 a3).2.2.2.2) ∧ W.cell? ⟨w6.heap.size, 0, none⟩ = some (.slice A6_0 (List.length x1) c6_0) ∧ W.cell? ⟨w7.heap.size, 0, none⟩ = some (.slice A7_0 (List.length x2) c7_0) ∧ W.cell? ⟨w8.heap.size, 0, none⟩ = some (.slice A8_0 (List.length (f0_IssueCertificate x0 x1 x2 a3).1) c8_0) ∧ W.cell? ⟨w8.heap.size, 1, none⟩ = some (.slice A8_1 (List.length (f0_IssueCertificate x0 x1 x2 a3).2.1) c8_1) ∧ W.cell? ⟨w8.heap.size, 2, none⟩ = some (.slice A8_2 (List.length (f0_IssueCertificate x0 x1 x2 a3).2.2.1) c8_2) ∧ W.cell? ⟨w8.heap.size, 3, none⟩ = some (.int .i64 (f0_IssueCertificate x0 x1 x2 a3).2.2.2.1) ∧ W.cell? ⟨w8.heap.size, 4, none⟩ = some (.int .i64 (f0_IssueCertificate x0 x1 x2 a3).2.2.2.2)) := fun W hW => ⟨hW, (hW.cell za1_11).trans ea1_0_11, (hW.cell za2_11).trans ea2_0_11, (hW.cell zw0_11).trans ew0_0_11, (hW.cell zw0_11).trans ew0_1_11, (hW.cell zw0_11).trans ew0_2_11, (hW.cell zw0_11).trans ew0_3_11, (hW.cell zw0_11).trans ew0_4_11, (hW.cell zx1_11).trans ex1_0_11, (hW.cell zx2_11).trans ex2_0_11, (hW.cell zg0_11).trans eg0_0_11, (hW.cell zg0_11).trans eg0_1_11, (hW.cell zg0_11).trans eg0_2_11, (hW.cell zg0_11).trans eg0_3_11, (hW.cell zg0_11).trans eg0_4_11⟩
  go_wp2_with fail
  go_region_held3 (fun W => Below w11.heap.size w11 W ∧ W.cell? ⟨w.heap.size, 0, none⟩ = some (.slice A10 (List.length x1) c10) ∧ W.cell? ⟨w.heap.size + 1, 0, none⟩ = some (.slice A20 (List.length x2) c20) ∧ W.cell? ⟨gW0, 0, none⟩ = some (.slice Apq0 (List.length (f0_IssueCertificate x0 x1 x2 a3).1) cpq0) ∧ W.cell? ⟨gW0, 1, none⟩ = some (.slice Apq1 (List.length (f0_IssueCertificate x0 x1 x2 a3).2.1) cpq1) ∧ W.cell? ⟨gW0, 2, none⟩ = some (.slice Apq2 (List.length (f0_IssueCertificate x0 x1 x2 a3).2.2.1) cpq2) ∧ W.cell? ⟨gW0, 3, none⟩ = some (.int .i64 (f0_IssueCertificate x0 x1 x2 a3).2.2.2.1) ∧ W.cell? ⟨gW0, 4, none⟩ = some (.int .i64 (f0_IssueCertificate x0 x1 x2 a3).2.2.2.2) ∧ W.cell? ⟨w6.heap.size, 0, none⟩ = some (.slice A6_0 (List.length x1) c6_0) ∧ W.cell? ⟨w7.heap.size, 0, none⟩ = some (.slice A7_0 (List.length x2) c7_0) ∧ W.cell? ⟨w8.heap.size, 0, none⟩ = some (.slice A8_0 (List.length (f0_IssueCertificate x0 x1 x2 a3).1) c8_0) ∧ W.cell? ⟨w8.heap.size, 1, none⟩ = some (.slice A8_1 (List.length (f0_IssueCertificate x0 x1 x2 a3).2.1) c8_1) ∧ W.cell? ⟨w8.heap.size, 2, none⟩ = some (.slice A8_2 (List.length (f0_IssueCertificate x0 x1 x2 a3).2.2.1) c8_2) ∧ W.cell? ⟨w8.heap.size, 3, none⟩ = some (.int .i64 (f0_IssueCertificate x0 x1 x2 a3).2.2.2.1) ∧ W.cell? ⟨w8.heap.size, 4, none⟩ = some (.int .i64 (f0_IssueCertificate x0 x1 x2 a3).2.2.2.2)) (exact HSq1.out _ (by repeat' (first | (with_reducible exact Below.refl _ _) | (with_reducible assumption) | (with_reducible refine bel_set ?_ (by (try dsimp only); omega) _) | (with_reducible refine bel_alloc ?_ _) | (with_reducible refine bel_drewN ?_ _) | (with_reducible refine bel_drew ?_))))
    (first
      | (go_at_call 35; (with_reducible refine (C_laws_toName _ _ x1 (Ty.rd_below (by repeat' (first | (with_reducible exact Below.refl _ _) | (with_reducible assumption) | (with_reducible refine bel_set ?_ (by (try dsimp only); omega) _) | (with_reducible refine bel_alloc ?_ _) | (with_reducible refine bel_drewN ?_ _) | (with_reducible refine bel_drew ?_))) h1) s1).mono ?_); rintro e wq ⟨csq, fpq, rfl, howq, hfrq, hbq⟩; have hvq : Below w11.heap.size w11 wq := bel_trans (by repeat' (first | (with_reducible exact Below.refl _ _) | (with_reducible assumption) | (with_reducible refine bel_set ?_ (by (try dsimp only); omega) _) | (with_reducible refine bel_alloc ?_ _) | (with_reducible refine bel_drewN ?_ _) | (with_reducible refine bel_drew ?_))) hbq; have hxq : Below w6.heap.size w6 wq := bel_trans vX1_11 hvq)
      | (go_at_call 38; (with_reducible refine (C_laws_eqName _ _ _ x1 (Ty.rd_below hxq (Ty.ow_rd how6)) (Ty.ow_rd howq)).mono ?_); rintro e w12 ⟨rfl, hb12⟩; have hvz : Below w11.heap.size w11 w12 := bel_trans hvq hb12))
  have st12 : Below w11.heap.size w11 w12 := hvz
  clear hvz
  have zz12 : w11.heap.size ≤ w12.heap.size := st12.size
  have vw_12 : Below w.heap.size w w12 := bel_trans vw_11 st12
  have vW0_12 : Below w4.heap.size w4 w12 := bel_trans vW0_11 st12
  have vX0_12 : Below w5.heap.size w5 w12 := bel_trans vX0_11 st12
  have vX1_12 : Below w6.heap.size w6 w12 := bel_trans vX1_11 st12
  have vX2_12 : Below w7.heap.size w7 w12 := bel_trans vX2_11 st12
  have vG0_12 : Below w8.heap.size w8 w12 := bel_trans vG0_11 st12
  have za1_12 : w.heap.size < w12.heap.size := by omega
  have ea1_0_12 : w12.cell? ⟨w.heap.size, 0, none⟩ = some (.slice A10 (List.length x1) c10) := (st12.cell za1_11).trans ea1_0_11
  have za2_12 : w.heap.size + 1 < w12.heap.size := by omega
  have ea2_0_12 : w12.cell? ⟨w.heap.size + 1, 0, none⟩ = some (.slice A20 (List.length x2) c20) := (st12.cell za2_11).trans ea2_0_11
  have zw0_12 : gW0 < w12.heap.size := by omega
  have ew0_0_12 : w12.cell? ⟨gW0, 0, none⟩ = some (.slice Apq0 (List.length (f0_IssueCertificate x0 x1 x2 a3).1) cpq0) := (st12.cell zw0_11).trans ew0_0_11
  have ew0_1_12 : w12.cell? ⟨gW0, 1, none⟩ = some (.slice Apq1 (List.length (f0_IssueCertificate x0 x1 x2 a3).2.1) cpq1) := (st12.cell zw0_11).trans ew0_1_11
  have ew0_2_12 : w12.cell? ⟨gW0, 2, none⟩ = some (.slice Apq2 (List.length (f0_IssueCertificate x0 x1 x2 a3).2.2.1) cpq2) := (st12.cell zw0_11).trans ew0_2_11
  have ew0_3_12 : w12.cell? ⟨gW0, 3, none⟩ = some (.int .i64 (f0_IssueCertificate x0 x1 x2 a3).2.2.2.1) := (st12.cell zw0_11).trans ew0_3_11
  have ew0_4_12 : w12.cell? ⟨gW0, 4, none⟩ = some (.int .i64 (f0_IssueCertificate x0 x1 x2 a3).2.2.2.2) := (st12.cell zw0_11).trans ew0_4_11
  have zx1_12 : w6.heap.size < w12.heap.size := by omega
  have ex1_0_12 : w12.cell? ⟨w6.heap.size, 0, none⟩ = some (.slice A6_0 (List.length x1) c6_0) := (st12.cell zx1_11).trans ex1_0_11
  have zx2_12 : w7.heap.size < w12.heap.size := by omega
  have ex2_0_12 : w12.cell? ⟨w7.heap.size, 0, none⟩ = some (.slice A7_0 (List.length x2) c7_0) := (st12.cell zx2_11).trans ex2_0_11
  have zg0_12 : w8.heap.size < w12.heap.size := by omega
  have eg0_0_12 : w12.cell? ⟨w8.heap.size, 0, none⟩ = some (.slice A8_0 (List.length (f0_IssueCertificate x0 x1 x2 a3).1) c8_0) := (st12.cell zg0_11).trans eg0_0_11
  have eg0_1_12 : w12.cell? ⟨w8.heap.size, 1, none⟩ = some (.slice A8_1 (List.length (f0_IssueCertificate x0 x1 x2 a3).2.1) c8_1) := (st12.cell zg0_11).trans eg0_1_11
  have eg0_2_12 : w12.cell? ⟨w8.heap.size, 2, none⟩ = some (.slice A8_2 (List.length (f0_IssueCertificate x0 x1 x2 a3).2.2.1) c8_2) := (st12.cell zg0_11).trans eg0_2_11
  have eg0_3_12 : w12.cell? ⟨w8.heap.size, 3, none⟩ = some (.int .i64 (f0_IssueCertificate x0 x1 x2 a3).2.2.2.1) := (st12.cell zg0_11).trans eg0_3_11
  have eg0_4_12 : w12.cell? ⟨w8.heap.size, 4, none⟩ = some (.int .i64 (f0_IssueCertificate x0 x1 x2 a3).2.2.2.2) := (st12.cell zg0_11).trans eg0_4_11
  clear ea1_0_11 ea2_0_11 ew0_0_11 ew0_1_11 ew0_2_11 ew0_3_11 ew0_4_11 ex1_0_11 ex2_0_11 eg0_0_11 eg0_1_11 eg0_2_11 eg0_3_11 eg0_4_11
  have HSq2 : Hid (∀ W, Below w12.heap.size w12 W → Below w12.heap.size w12 W ∧ W.cell? ⟨w.heap.size, 0, none⟩ = some (.slice A10 (List.length x1) c10) ∧ W.cell? ⟨w.heap.size + 1, 0, none⟩ = some (.slice A20 (List.length x2) c20) ∧ W.cell? ⟨gW0, 0, none⟩ = some (.slice Apq0 (List.length (f0_IssueCertificate x0 x1 x2 a3).1) cpq0) ∧ W.cell? ⟨gW0, 1, none⟩ = some (.slice Apq1 (List.length (f0_IssueCertificate x0 x1 x2 a3).2.1) cpq1) ∧ W.cell? ⟨gW0, 2, none⟩ = some (.slice Apq2 (List.length (f0_IssueCertificate x0 x1 x2 a3).2.2.1) cpq2) ∧ W.cell? ⟨gW0, 3, none⟩ = some (.int .i64 (f0_IssueCertificate x0 x1 x2 a3).2.2.2.1) ∧ W.cell? ⟨gW0, 4, none⟩ = some (.int .i64 (f0_IssueCertificate x0 x1 x2 a3).2.2.2.2) ∧ W.cell? ⟨w6.heap.size, 0, none⟩ = some (.slice A6_0 (List.length x1) c6_0) ∧ W.cell? ⟨w7.heap.size, 0, none⟩ = some (.slice A7_0 (List.length x2) c7_0) ∧ W.cell? ⟨w8.heap.size, 0, none⟩ = some (.slice A8_0 (List.length (f0_IssueCertificate x0 x1 x2 a3).1) c8_0) ∧ W.cell? ⟨w8.heap.size, 1, none⟩ = some (.slice A8_1 (List.length (f0_IssueCertificate x0 x1 x2 a3).2.1) c8_1) ∧ W.cell? ⟨w8.heap.size, 2, none⟩ = some (.slice A8_2 (List.length (f0_IssueCertificate x0 x1 x2 a3).2.2.1) c8_2) ∧ W.cell? ⟨w8.heap.size, 3, none⟩ = some (.int .i64 (f0_IssueCertificate x0 x1 x2 a3).2.2.2.1) ∧ W.cell? ⟨w8.heap.size, 4, none⟩ = some (.int .i64 (f0_IssueCertificate x0 x1 x2 a3).2.2.2.2)) := fun W hW => ⟨hW, (hW.cell za1_12).trans ea1_0_12, (hW.cell za2_12).trans ea2_0_12, (hW.cell zw0_12).trans ew0_0_12, (hW.cell zw0_12).trans ew0_1_12, (hW.cell zw0_12).trans ew0_2_12, (hW.cell zw0_12).trans ew0_3_12, (hW.cell zw0_12).trans ew0_4_12, (hW.cell zx1_12).trans ex1_0_12, (hW.cell zx2_12).trans ex2_0_12, (hW.cell zg0_12).trans eg0_0_12, (hW.cell zg0_12).trans eg0_1_12, (hW.cell zg0_12).trans eg0_2_12, (hW.cell zg0_12).trans eg0_3_12, (hW.cell zg0_12).trans eg0_4_12⟩
  go_wp2_with fail
  go_region_held3 (fun W => Below w12.heap.size w12 W ∧ W.cell? ⟨w.heap.size, 0, none⟩ = some (.slice A10 (List.length x1) c10) ∧ W.cell? ⟨w.heap.size + 1, 0, none⟩ = some (.slice A20 (List.length x2) c20) ∧ W.cell? ⟨gW0, 0, none⟩ = some (.slice Apq0 (List.length (f0_IssueCertificate x0 x1 x2 a3).1) cpq0) ∧ W.cell? ⟨gW0, 1, none⟩ = some (.slice Apq1 (List.length (f0_IssueCertificate x0 x1 x2 a3).2.1) cpq1) ∧ W.cell? ⟨gW0, 2, none⟩ = some (.slice Apq2 (List.length (f0_IssueCertificate x0 x1 x2 a3).2.2.1) cpq2) ∧ W.cell? ⟨gW0, 3, none⟩ = some (.int .i64 (f0_IssueCertificate x0 x1 x2 a3).2.2.2.1) ∧ W.cell? ⟨gW0, 4, none⟩ = some (.int .i64 (f0_IssueCertificate x0 x1 x2 a3).2.2.2.2) ∧ W.cell? ⟨w6.heap.size, 0, none⟩ = some (.slice A6_0 (List.length x1) c6_0) ∧ W.cell? ⟨w7.heap.size, 0, none⟩ = some (.slice A7_0 (List.length x2) c7_0) ∧ W.cell? ⟨w8.heap.size, 0, none⟩ = some (.slice A8_0 (List.length (f0_IssueCertificate x0 x1 x2 a3).1) c8_0) ∧ W.cell? ⟨w8.heap.size, 1, none⟩ = some (.slice A8_1 (List.length (f0_IssueCertificate x0 x1 x2 a3).2.1) c8_1) ∧ W.cell? ⟨w8.heap.size, 2, none⟩ = some (.slice A8_2 (List.length (f0_IssueCertificate x0 x1 x2 a3).2.2.1) c8_2) ∧ W.cell? ⟨w8.heap.size, 3, none⟩ = some (.int .i64 (f0_IssueCertificate x0 x1 x2 a3).2.2.2.1) ∧ W.cell? ⟨w8.heap.size, 4, none⟩ = some (.int .i64 (f0_IssueCertificate x0 x1 x2 a3).2.2.2.2)) (exact HSq2.out _ (by repeat' (first | (with_reducible exact Below.refl _ _) | (with_reducible assumption) | (with_reducible refine bel_set ?_ (by (try dsimp only); omega) _) | (with_reducible refine bel_alloc ?_ _) | (with_reducible refine bel_drewN ?_ _) | (with_reducible refine bel_drew ?_))))
    (first
      | (go_at_call 35; (with_reducible refine (C_laws_toName _ _ x2 (Ty.rd_below (by repeat' (first | (with_reducible exact Below.refl _ _) | (with_reducible assumption) | (with_reducible refine bel_set ?_ (by (try dsimp only); omega) _) | (with_reducible refine bel_alloc ?_ _) | (with_reducible refine bel_drewN ?_ _) | (with_reducible refine bel_drew ?_))) h2) s2).mono ?_); rintro e wq ⟨csq, fpq, rfl, howq, hfrq, hbq⟩; have hvq : Below w12.heap.size w12 wq := bel_trans (by repeat' (first | (with_reducible exact Below.refl _ _) | (with_reducible assumption) | (with_reducible refine bel_set ?_ (by (try dsimp only); omega) _) | (with_reducible refine bel_alloc ?_ _) | (with_reducible refine bel_drewN ?_ _) | (with_reducible refine bel_drew ?_))) hbq; have hxq : Below w7.heap.size w7 wq := bel_trans vX2_12 hvq)
      | (go_at_call 38; (with_reducible refine (C_laws_eqName _ _ _ x2 (Ty.rd_below hxq (Ty.ow_rd how7)) (Ty.ow_rd howq)).mono ?_); rintro e w13 ⟨rfl, hb13⟩; have hvz : Below w12.heap.size w12 w13 := bel_trans hvq hb13))
  have st13 : Below w12.heap.size w12 w13 := hvz
  clear hvz
  have zz13 : w12.heap.size ≤ w13.heap.size := st13.size
  have vw_13 : Below w.heap.size w w13 := bel_trans vw_12 st13
  have vW0_13 : Below w4.heap.size w4 w13 := bel_trans vW0_12 st13
  have vX0_13 : Below w5.heap.size w5 w13 := bel_trans vX0_12 st13
  have vX1_13 : Below w6.heap.size w6 w13 := bel_trans vX1_12 st13
  have vX2_13 : Below w7.heap.size w7 w13 := bel_trans vX2_12 st13
  have vG0_13 : Below w8.heap.size w8 w13 := bel_trans vG0_12 st13
  have za1_13 : w.heap.size < w13.heap.size := by omega
  have ea1_0_13 : w13.cell? ⟨w.heap.size, 0, none⟩ = some (.slice A10 (List.length x1) c10) := (st13.cell za1_12).trans ea1_0_12
  have za2_13 : w.heap.size + 1 < w13.heap.size := by omega
  have ea2_0_13 : w13.cell? ⟨w.heap.size + 1, 0, none⟩ = some (.slice A20 (List.length x2) c20) := (st13.cell za2_12).trans ea2_0_12
  have zw0_13 : gW0 < w13.heap.size := by omega
  have ew0_0_13 : w13.cell? ⟨gW0, 0, none⟩ = some (.slice Apq0 (List.length (f0_IssueCertificate x0 x1 x2 a3).1) cpq0) := (st13.cell zw0_12).trans ew0_0_12
  have ew0_1_13 : w13.cell? ⟨gW0, 1, none⟩ = some (.slice Apq1 (List.length (f0_IssueCertificate x0 x1 x2 a3).2.1) cpq1) := (st13.cell zw0_12).trans ew0_1_12
  have ew0_2_13 : w13.cell? ⟨gW0, 2, none⟩ = some (.slice Apq2 (List.length (f0_IssueCertificate x0 x1 x2 a3).2.2.1) cpq2) := (st13.cell zw0_12).trans ew0_2_12
  have ew0_3_13 : w13.cell? ⟨gW0, 3, none⟩ = some (.int .i64 (f0_IssueCertificate x0 x1 x2 a3).2.2.2.1) := (st13.cell zw0_12).trans ew0_3_12
  have ew0_4_13 : w13.cell? ⟨gW0, 4, none⟩ = some (.int .i64 (f0_IssueCertificate x0 x1 x2 a3).2.2.2.2) := (st13.cell zw0_12).trans ew0_4_12
  have zx1_13 : w6.heap.size < w13.heap.size := by omega
  have ex1_0_13 : w13.cell? ⟨w6.heap.size, 0, none⟩ = some (.slice A6_0 (List.length x1) c6_0) := (st13.cell zx1_12).trans ex1_0_12
  have zx2_13 : w7.heap.size < w13.heap.size := by omega
  have ex2_0_13 : w13.cell? ⟨w7.heap.size, 0, none⟩ = some (.slice A7_0 (List.length x2) c7_0) := (st13.cell zx2_12).trans ex2_0_12
  have zg0_13 : w8.heap.size < w13.heap.size := by omega
  have eg0_0_13 : w13.cell? ⟨w8.heap.size, 0, none⟩ = some (.slice A8_0 (List.length (f0_IssueCertificate x0 x1 x2 a3).1) c8_0) := (st13.cell zg0_12).trans eg0_0_12
  have eg0_1_13 : w13.cell? ⟨w8.heap.size, 1, none⟩ = some (.slice A8_1 (List.length (f0_IssueCertificate x0 x1 x2 a3).2.1) c8_1) := (st13.cell zg0_12).trans eg0_1_12
  have eg0_2_13 : w13.cell? ⟨w8.heap.size, 2, none⟩ = some (.slice A8_2 (List.length (f0_IssueCertificate x0 x1 x2 a3).2.2.1) c8_2) := (st13.cell zg0_12).trans eg0_2_12
  have eg0_3_13 : w13.cell? ⟨w8.heap.size, 3, none⟩ = some (.int .i64 (f0_IssueCertificate x0 x1 x2 a3).2.2.2.1) := (st13.cell zg0_12).trans eg0_3_12
  have eg0_4_13 : w13.cell? ⟨w8.heap.size, 4, none⟩ = some (.int .i64 (f0_IssueCertificate x0 x1 x2 a3).2.2.2.2) := (st13.cell zg0_12).trans eg0_4_12
  clear ea1_0_12 ea2_0_12 ew0_0_12 ew0_1_12 ew0_2_12 ew0_3_12 ew0_4_12 ex1_0_12 ex2_0_12 eg0_0_12 eg0_1_12 eg0_2_12 eg0_3_12 eg0_4_12
  have cb0 : Ty.cnt (.sl tKey) x0 ≤ 100000000 := Nat.le_trans (Ty.cntv_le (.sl tKey) x0) (Nat.le_trans (Nat.mul_le_mul_left _ s0) (by decide))
  have cb1 : Ty.cntv (.sl .str) x1 ≤ 100000000 := Nat.le_trans (Ty.cntv_le (.sl .str) x1) (Nat.le_trans (Nat.mul_le_mul_left _ s1) (by decide))
  have cb2 : Ty.cntv (.sl .str) x2 ≤ 100000000 := Nat.le_trans (Ty.cntv_le (.sl .str) x2) (Nat.le_trans (Nat.mul_le_mul_left _ s2) (by decide))
  have cbG : Ty.cntv tData (f0_IssueCertificate x0 x1 x2 a3) ≤ 100000000000 := N_IssueCertificate s0 s1 s2
  go_wp2_with fail
  refine (C_laws_markKeyS _ _ x0 fp5 (1) (Ty.ow_bel (by repeat' (first | (with_reducible exact Below.refl _ _) | (with_reducible assumption) | (with_reducible refine bel_set ?_ (by (try dsimp only); omega) _) | (with_reducible refine bel_alloc ?_ _) | (with_reducible refine bel_drewN ?_ _) | (with_reducible refine bel_drew ?_))) how5) frX0.1 (by omega) (by omega)).mono ?_
  rintro e w14 ⟨rfl, hm14, hk14⟩
  have zz14 : w13.heap.size ≤ w14.heap.size := hk14.size
  have szl14 : w.heap.size ≤ w4.heap.size := vw_4.size
  have vw_14 : Below w.heap.size w w14 := vw_13.trans (hk14.below vw_13.size (fun y hy => by have := frX0.2 y hy; omega))
  have howW0_14 : Ty.ow w14 tData [.slice Apq0 (List.length (f0_IssueCertificate x0 x1 x2 a3).1) cpq0, .slice Apq1 (List.length (f0_IssueCertificate x0 x1 x2 a3).2.1) cpq1, .slice Apq2 (List.length (f0_IssueCertificate x0 x1 x2 a3).2.2.1) cpq2, .int .i64 (f0_IssueCertificate x0 x1 x2 a3).2.2.2.1, .int .i64 (f0_IssueCertificate x0 x1 x2 a3).2.2.2.2] (f0_IssueCertificate x0 x1 x2 a3) fp4 := Ty.ow_keep (fun y hy => (hk14.block y (Nat.lt_of_lt_of_le (Ty.ow_lt how4 y hy) vW0_13.size) (fun hy2 => by have := frW0.2 y hy; have := frX0.2 y hy2; omega)).trans (vW0_13.block y (Ty.ow_lt how4 y hy))) how4
  have vW0_14 : Below w14.heap.size w14 w14 := Below.refl _ _
  have howX1_14 : Ty.ow w14 (.sl .str) [.slice A6_0 (List.length x1) c6_0] x1 fp6 := Ty.ow_keep (fun y hy => (hk14.block y (Nat.lt_of_lt_of_le (Ty.ow_lt how6 y hy) vX1_13.size) (fun hy2 => by have := frX1.2 y hy; have := frX0.2 y hy2; omega)).trans (vX1_13.block y (Ty.ow_lt how6 y hy))) how6
  have vX1_14 : Below w14.heap.size w14 w14 := Below.refl _ _
  have howX2_14 : Ty.ow w14 (.sl .str) [.slice A7_0 (List.length x2) c7_0] x2 fp7 := Ty.ow_keep (fun y hy => (hk14.block y (Nat.lt_of_lt_of_le (Ty.ow_lt how7 y hy) vX2_13.size) (fun hy2 => by have := frX2.2 y hy; have := frX0.2 y hy2; omega)).trans (vX2_13.block y (Ty.ow_lt how7 y hy))) how7
  have vX2_14 : Below w14.heap.size w14 w14 := Below.refl _ _
  have howG0_14 : Ty.ow w14 tData [.slice A8_0 (List.length (f0_IssueCertificate x0 x1 x2 a3).1) c8_0, .slice A8_1 (List.length (f0_IssueCertificate x0 x1 x2 a3).2.1) c8_1, .slice A8_2 (List.length (f0_IssueCertificate x0 x1 x2 a3).2.2.1) c8_2, .int .i64 (f0_IssueCertificate x0 x1 x2 a3).2.2.2.1, .int .i64 (f0_IssueCertificate x0 x1 x2 a3).2.2.2.2] (f0_IssueCertificate x0 x1 x2 a3) fp8 := Ty.ow_keep (fun y hy => (hk14.block y (Nat.lt_of_lt_of_le (Ty.ow_lt how8 y hy) vG0_13.size) (fun hy2 => by have := frG0.2 y hy; have := frX0.2 y hy2; omega)).trans (vG0_13.block y (Ty.ow_lt how8 y hy))) how8
  have vG0_14 : Below w14.heap.size w14 w14 := Below.refl _ _
  have za1_14 : w.heap.size < w14.heap.size := by omega
  have hBa1_14 : w14.heap[w.heap.size]? = w13.heap[w.heap.size]? := hk14.block _ za1_13 (fun hy => by have := frX0.2 _ hy; omega)
  have ea1_0_14 : w14.cell? ⟨w.heap.size, 0, none⟩ = some (.slice A10 (List.length x1) c10) := (cell_of_heap hBa1_14 0).trans ea1_0_13
  have za2_14 : w.heap.size + 1 < w14.heap.size := by omega
  have hBa2_14 : w14.heap[w.heap.size + 1]? = w13.heap[w.heap.size + 1]? := hk14.block _ za2_13 (fun hy => by have := frX0.2 _ hy; omega)
  have ea2_0_14 : w14.cell? ⟨w.heap.size + 1, 0, none⟩ = some (.slice A20 (List.length x2) c20) := (cell_of_heap hBa2_14 0).trans ea2_0_13
  have zw0_14 : gW0 < w14.heap.size := by omega
  have hBw0_14 : w14.heap[gW0]? = w13.heap[gW0]? := hk14.block _ zw0_13 (fun hy => by have := frX0.2 _ hy; omega)
  have ew0_0_14 : w14.cell? ⟨gW0, 0, none⟩ = some (.slice Apq0 (List.length (f0_IssueCertificate x0 x1 x2 a3).1) cpq0) := (cell_of_heap hBw0_14 0).trans ew0_0_13
  have ew0_1_14 : w14.cell? ⟨gW0, 1, none⟩ = some (.slice Apq1 (List.length (f0_IssueCertificate x0 x1 x2 a3).2.1) cpq1) := (cell_of_heap hBw0_14 1).trans ew0_1_13
  have ew0_2_14 : w14.cell? ⟨gW0, 2, none⟩ = some (.slice Apq2 (List.length (f0_IssueCertificate x0 x1 x2 a3).2.2.1) cpq2) := (cell_of_heap hBw0_14 2).trans ew0_2_13
  have ew0_3_14 : w14.cell? ⟨gW0, 3, none⟩ = some (.int .i64 (f0_IssueCertificate x0 x1 x2 a3).2.2.2.1) := (cell_of_heap hBw0_14 3).trans ew0_3_13
  have ew0_4_14 : w14.cell? ⟨gW0, 4, none⟩ = some (.int .i64 (f0_IssueCertificate x0 x1 x2 a3).2.2.2.2) := (cell_of_heap hBw0_14 4).trans ew0_4_13
  have zx1_14 : w6.heap.size < w14.heap.size := by omega
  have hBx1_14 : w14.heap[w6.heap.size]? = w13.heap[w6.heap.size]? := hk14.block _ zx1_13 (fun hy => by have := frX0.2 _ hy; omega)
  have ex1_0_14 : w14.cell? ⟨w6.heap.size, 0, none⟩ = some (.slice A6_0 (List.length x1) c6_0) := (cell_of_heap hBx1_14 0).trans ex1_0_13
  have zx2_14 : w7.heap.size < w14.heap.size := by omega
  have hBx2_14 : w14.heap[w7.heap.size]? = w13.heap[w7.heap.size]? := hk14.block _ zx2_13 (fun hy => by have := frX0.2 _ hy; omega)
  have ex2_0_14 : w14.cell? ⟨w7.heap.size, 0, none⟩ = some (.slice A7_0 (List.length x2) c7_0) := (cell_of_heap hBx2_14 0).trans ex2_0_13
  have zg0_14 : w8.heap.size < w14.heap.size := by omega
  have hBg0_14 : w14.heap[w8.heap.size]? = w13.heap[w8.heap.size]? := hk14.block _ zg0_13 (fun hy => by have := frX0.2 _ hy; omega)
  have eg0_0_14 : w14.cell? ⟨w8.heap.size, 0, none⟩ = some (.slice A8_0 (List.length (f0_IssueCertificate x0 x1 x2 a3).1) c8_0) := (cell_of_heap hBg0_14 0).trans eg0_0_13
  have eg0_1_14 : w14.cell? ⟨w8.heap.size, 1, none⟩ = some (.slice A8_1 (List.length (f0_IssueCertificate x0 x1 x2 a3).2.1) c8_1) := (cell_of_heap hBg0_14 1).trans eg0_1_13
  have eg0_2_14 : w14.cell? ⟨w8.heap.size, 2, none⟩ = some (.slice A8_2 (List.length (f0_IssueCertificate x0 x1 x2 a3).2.2.1) c8_2) := (cell_of_heap hBg0_14 2).trans eg0_2_13
  have eg0_3_14 : w14.cell? ⟨w8.heap.size, 3, none⟩ = some (.int .i64 (f0_IssueCertificate x0 x1 x2 a3).2.2.2.1) := (cell_of_heap hBg0_14 3).trans eg0_3_13
  have eg0_4_14 : w14.cell? ⟨w8.heap.size, 4, none⟩ = some (.int .i64 (f0_IssueCertificate x0 x1 x2 a3).2.2.2.2) := (cell_of_heap hBg0_14 4).trans eg0_4_13
  clear ea1_0_13 ea2_0_13 ew0_0_13 ew0_1_13 ew0_2_13 ew0_3_13 ew0_4_13 ex1_0_13 ex2_0_13 eg0_0_13 eg0_1_13 eg0_2_13 eg0_3_13 eg0_4_13
  go_wp2_with fail
  refine (C_laws_markName _ _ x1 fp6 (1 + ((Ty.cnt (.sl tKey) x0 : Nat) : Int)) (Ty.ow_bel (by repeat' (first | (with_reducible exact Below.refl _ _) | (with_reducible assumption) | (with_reducible refine bel_set ?_ (by (try dsimp only); omega) _) | (with_reducible refine bel_alloc ?_ _) | (with_reducible refine bel_drewN ?_ _) | (with_reducible refine bel_drew ?_))) howX1_14) frX1.1 (by omega) (by omega)).mono ?_
  rintro e w15 ⟨rfl, hm15, hk15⟩
  have zz15 : w14.heap.size ≤ w15.heap.size := hk15.size
  have szl15 : w.heap.size ≤ w5.heap.size := vw_5.size
  have vw_15 : Below w.heap.size w w15 := vw_14.trans (hk15.below vw_14.size (fun y hy => by have := frX1.2 y hy; omega))
  have howW0_15 : Ty.ow w15 tData [.slice Apq0 (List.length (f0_IssueCertificate x0 x1 x2 a3).1) cpq0, .slice Apq1 (List.length (f0_IssueCertificate x0 x1 x2 a3).2.1) cpq1, .slice Apq2 (List.length (f0_IssueCertificate x0 x1 x2 a3).2.2.1) cpq2, .int .i64 (f0_IssueCertificate x0 x1 x2 a3).2.2.2.1, .int .i64 (f0_IssueCertificate x0 x1 x2 a3).2.2.2.2] (f0_IssueCertificate x0 x1 x2 a3) fp4 := Ty.ow_keep (fun y hy => (hk15.block y (Nat.lt_of_lt_of_le (Ty.ow_lt howW0_14 y hy) vW0_14.size) (fun hy2 => by have := frW0.2 y hy; have := frX1.2 y hy2; omega)).trans (vW0_14.block y (Ty.ow_lt howW0_14 y hy))) howW0_14
  have vW0_15 : Below w15.heap.size w15 w15 := Below.refl _ _
  have howX2_15 : Ty.ow w15 (.sl .str) [.slice A7_0 (List.length x2) c7_0] x2 fp7 := Ty.ow_keep (fun y hy => (hk15.block y (Nat.lt_of_lt_of_le (Ty.ow_lt howX2_14 y hy) vX2_14.size) (fun hy2 => by have := frX2.2 y hy; have := frX1.2 y hy2; omega)).trans (vX2_14.block y (Ty.ow_lt howX2_14 y hy))) howX2_14
  have vX2_15 : Below w15.heap.size w15 w15 := Below.refl _ _
  have howG0_15 : Ty.ow w15 tData [.slice A8_0 (List.length (f0_IssueCertificate x0 x1 x2 a3).1) c8_0, .slice A8_1 (List.length (f0_IssueCertificate x0 x1 x2 a3).2.1) c8_1, .slice A8_2 (List.length (f0_IssueCertificate x0 x1 x2 a3).2.2.1) c8_2, .int .i64 (f0_IssueCertificate x0 x1 x2 a3).2.2.2.1, .int .i64 (f0_IssueCertificate x0 x1 x2 a3).2.2.2.2] (f0_IssueCertificate x0 x1 x2 a3) fp8 := Ty.ow_keep (fun y hy => (hk15.block y (Nat.lt_of_lt_of_le (Ty.ow_lt howG0_14 y hy) vG0_14.size) (fun hy2 => by have := frG0.2 y hy; have := frX1.2 y hy2; omega)).trans (vG0_14.block y (Ty.ow_lt howG0_14 y hy))) howG0_14
  have vG0_15 : Below w15.heap.size w15 w15 := Below.refl _ _
  have za1_15 : w.heap.size < w15.heap.size := by omega
  have hBa1_15 : w15.heap[w.heap.size]? = w14.heap[w.heap.size]? := hk15.block _ za1_14 (fun hy => by have := frX1.2 _ hy; omega)
  have ea1_0_15 : w15.cell? ⟨w.heap.size, 0, none⟩ = some (.slice A10 (List.length x1) c10) := (cell_of_heap hBa1_15 0).trans ea1_0_14
  have za2_15 : w.heap.size + 1 < w15.heap.size := by omega
  have hBa2_15 : w15.heap[w.heap.size + 1]? = w14.heap[w.heap.size + 1]? := hk15.block _ za2_14 (fun hy => by have := frX1.2 _ hy; omega)
  have ea2_0_15 : w15.cell? ⟨w.heap.size + 1, 0, none⟩ = some (.slice A20 (List.length x2) c20) := (cell_of_heap hBa2_15 0).trans ea2_0_14
  have zw0_15 : gW0 < w15.heap.size := by omega
  have hBw0_15 : w15.heap[gW0]? = w14.heap[gW0]? := hk15.block _ zw0_14 (fun hy => by have := frX1.2 _ hy; omega)
  have ew0_0_15 : w15.cell? ⟨gW0, 0, none⟩ = some (.slice Apq0 (List.length (f0_IssueCertificate x0 x1 x2 a3).1) cpq0) := (cell_of_heap hBw0_15 0).trans ew0_0_14
  have ew0_1_15 : w15.cell? ⟨gW0, 1, none⟩ = some (.slice Apq1 (List.length (f0_IssueCertificate x0 x1 x2 a3).2.1) cpq1) := (cell_of_heap hBw0_15 1).trans ew0_1_14
  have ew0_2_15 : w15.cell? ⟨gW0, 2, none⟩ = some (.slice Apq2 (List.length (f0_IssueCertificate x0 x1 x2 a3).2.2.1) cpq2) := (cell_of_heap hBw0_15 2).trans ew0_2_14
  have ew0_3_15 : w15.cell? ⟨gW0, 3, none⟩ = some (.int .i64 (f0_IssueCertificate x0 x1 x2 a3).2.2.2.1) := (cell_of_heap hBw0_15 3).trans ew0_3_14
  have ew0_4_15 : w15.cell? ⟨gW0, 4, none⟩ = some (.int .i64 (f0_IssueCertificate x0 x1 x2 a3).2.2.2.2) := (cell_of_heap hBw0_15 4).trans ew0_4_14
  have zx1_15 : w6.heap.size < w15.heap.size := by omega
  have hBx1_15 : w15.heap[w6.heap.size]? = w14.heap[w6.heap.size]? := hk15.block _ zx1_14 (fun hy => by have := frX1.2 _ hy; omega)
  have ex1_0_15 : w15.cell? ⟨w6.heap.size, 0, none⟩ = some (.slice A6_0 (List.length x1) c6_0) := (cell_of_heap hBx1_15 0).trans ex1_0_14
  have zx2_15 : w7.heap.size < w15.heap.size := by omega
  have hBx2_15 : w15.heap[w7.heap.size]? = w14.heap[w7.heap.size]? := hk15.block _ zx2_14 (fun hy => by have := frX1.2 _ hy; omega)
  have ex2_0_15 : w15.cell? ⟨w7.heap.size, 0, none⟩ = some (.slice A7_0 (List.length x2) c7_0) := (cell_of_heap hBx2_15 0).trans ex2_0_14
  have zg0_15 : w8.heap.size < w15.heap.size := by omega
  have hBg0_15 : w15.heap[w8.heap.size]? = w14.heap[w8.heap.size]? := hk15.block _ zg0_14 (fun hy => by have := frX1.2 _ hy; omega)
  have eg0_0_15 : w15.cell? ⟨w8.heap.size, 0, none⟩ = some (.slice A8_0 (List.length (f0_IssueCertificate x0 x1 x2 a3).1) c8_0) := (cell_of_heap hBg0_15 0).trans eg0_0_14
  have eg0_1_15 : w15.cell? ⟨w8.heap.size, 1, none⟩ = some (.slice A8_1 (List.length (f0_IssueCertificate x0 x1 x2 a3).2.1) c8_1) := (cell_of_heap hBg0_15 1).trans eg0_1_14
  have eg0_2_15 : w15.cell? ⟨w8.heap.size, 2, none⟩ = some (.slice A8_2 (List.length (f0_IssueCertificate x0 x1 x2 a3).2.2.1) c8_2) := (cell_of_heap hBg0_15 2).trans eg0_2_14
  have eg0_3_15 : w15.cell? ⟨w8.heap.size, 3, none⟩ = some (.int .i64 (f0_IssueCertificate x0 x1 x2 a3).2.2.2.1) := (cell_of_heap hBg0_15 3).trans eg0_3_14
  have eg0_4_15 : w15.cell? ⟨w8.heap.size, 4, none⟩ = some (.int .i64 (f0_IssueCertificate x0 x1 x2 a3).2.2.2.2) := (cell_of_heap hBg0_15 4).trans eg0_4_14
  clear ea1_0_14 ea2_0_14 ew0_0_14 ew0_1_14 ew0_2_14 ew0_3_14 ew0_4_14 ex1_0_14 ex2_0_14 eg0_0_14 eg0_1_14 eg0_2_14 eg0_3_14 eg0_4_14
  go_wp2_with fail
  refine (C_laws_markName _ _ x2 fp7 (1 + ((Ty.cnt (.sl tKey) x0 : Nat) : Int) + ((Ty.cntv (.sl .str) x1 : Nat) : Int)) (Ty.ow_bel (by repeat' (first | (with_reducible exact Below.refl _ _) | (with_reducible assumption) | (with_reducible refine bel_set ?_ (by (try dsimp only); omega) _) | (with_reducible refine bel_alloc ?_ _) | (with_reducible refine bel_drewN ?_ _) | (with_reducible refine bel_drew ?_))) howX2_15) frX2.1 (by omega) (by omega)).mono ?_
  rintro e w16 ⟨rfl, hm16, hk16⟩
  have zz16 : w15.heap.size ≤ w16.heap.size := hk16.size
  have szl16 : w.heap.size ≤ w6.heap.size := vw_6.size
  have vw_16 : Below w.heap.size w w16 := vw_15.trans (hk16.below vw_15.size (fun y hy => by have := frX2.2 y hy; omega))
  have howW0_16 : Ty.ow w16 tData [.slice Apq0 (List.length (f0_IssueCertificate x0 x1 x2 a3).1) cpq0, .slice Apq1 (List.length (f0_IssueCertificate x0 x1 x2 a3).2.1) cpq1, .slice Apq2 (List.length (f0_IssueCertificate x0 x1 x2 a3).2.2.1) cpq2, .int .i64 (f0_IssueCertificate x0 x1 x2 a3).2.2.2.1, .int .i64 (f0_IssueCertificate x0 x1 x2 a3).2.2.2.2] (f0_IssueCertificate x0 x1 x2 a3) fp4 := Ty.ow_keep (fun y hy => (hk16.block y (Nat.lt_of_lt_of_le (Ty.ow_lt howW0_15 y hy) vW0_15.size) (fun hy2 => by have := frW0.2 y hy; have := frX2.2 y hy2; omega)).trans (vW0_15.block y (Ty.ow_lt howW0_15 y hy))) howW0_15
  have vW0_16 : Below w16.heap.size w16 w16 := Below.refl _ _
  have howG0_16 : Ty.ow w16 tData [.slice A8_0 (List.length (f0_IssueCertificate x0 x1 x2 a3).1) c8_0, .slice A8_1 (List.length (f0_IssueCertificate x0 x1 x2 a3).2.1) c8_1, .slice A8_2 (List.length (f0_IssueCertificate x0 x1 x2 a3).2.2.1) c8_2, .int .i64 (f0_IssueCertificate x0 x1 x2 a3).2.2.2.1, .int .i64 (f0_IssueCertificate x0 x1 x2 a3).2.2.2.2] (f0_IssueCertificate x0 x1 x2 a3) fp8 := Ty.ow_keep (fun y hy => (hk16.block y (Nat.lt_of_lt_of_le (Ty.ow_lt howG0_15 y hy) vG0_15.size) (fun hy2 => by have := frG0.2 y hy; have := frX2.2 y hy2; omega)).trans (vG0_15.block y (Ty.ow_lt howG0_15 y hy))) howG0_15
  have vG0_16 : Below w16.heap.size w16 w16 := Below.refl _ _
  have za1_16 : w.heap.size < w16.heap.size := by omega
  have hBa1_16 : w16.heap[w.heap.size]? = w15.heap[w.heap.size]? := hk16.block _ za1_15 (fun hy => by have := frX2.2 _ hy; omega)
  have ea1_0_16 : w16.cell? ⟨w.heap.size, 0, none⟩ = some (.slice A10 (List.length x1) c10) := (cell_of_heap hBa1_16 0).trans ea1_0_15
  have za2_16 : w.heap.size + 1 < w16.heap.size := by omega
  have hBa2_16 : w16.heap[w.heap.size + 1]? = w15.heap[w.heap.size + 1]? := hk16.block _ za2_15 (fun hy => by have := frX2.2 _ hy; omega)
  have ea2_0_16 : w16.cell? ⟨w.heap.size + 1, 0, none⟩ = some (.slice A20 (List.length x2) c20) := (cell_of_heap hBa2_16 0).trans ea2_0_15
  have zw0_16 : gW0 < w16.heap.size := by omega
  have hBw0_16 : w16.heap[gW0]? = w15.heap[gW0]? := hk16.block _ zw0_15 (fun hy => by have := frX2.2 _ hy; omega)
  have ew0_0_16 : w16.cell? ⟨gW0, 0, none⟩ = some (.slice Apq0 (List.length (f0_IssueCertificate x0 x1 x2 a3).1) cpq0) := (cell_of_heap hBw0_16 0).trans ew0_0_15
  have ew0_1_16 : w16.cell? ⟨gW0, 1, none⟩ = some (.slice Apq1 (List.length (f0_IssueCertificate x0 x1 x2 a3).2.1) cpq1) := (cell_of_heap hBw0_16 1).trans ew0_1_15
  have ew0_2_16 : w16.cell? ⟨gW0, 2, none⟩ = some (.slice Apq2 (List.length (f0_IssueCertificate x0 x1 x2 a3).2.2.1) cpq2) := (cell_of_heap hBw0_16 2).trans ew0_2_15
  have ew0_3_16 : w16.cell? ⟨gW0, 3, none⟩ = some (.int .i64 (f0_IssueCertificate x0 x1 x2 a3).2.2.2.1) := (cell_of_heap hBw0_16 3).trans ew0_3_15
  have ew0_4_16 : w16.cell? ⟨gW0, 4, none⟩ = some (.int .i64 (f0_IssueCertificate x0 x1 x2 a3).2.2.2.2) := (cell_of_heap hBw0_16 4).trans ew0_4_15
  have zx1_16 : w6.heap.size < w16.heap.size := by omega
  have hBx1_16 : w16.heap[w6.heap.size]? = w15.heap[w6.heap.size]? := hk16.block _ zx1_15 (fun hy => by have := frX2.2 _ hy; omega)
  have ex1_0_16 : w16.cell? ⟨w6.heap.size, 0, none⟩ = some (.slice A6_0 (List.length x1) c6_0) := (cell_of_heap hBx1_16 0).trans ex1_0_15
  have zx2_16 : w7.heap.size < w16.heap.size := by omega
  have hBx2_16 : w16.heap[w7.heap.size]? = w15.heap[w7.heap.size]? := hk16.block _ zx2_15 (fun hy => by have := frX2.2 _ hy; omega)
  have ex2_0_16 : w16.cell? ⟨w7.heap.size, 0, none⟩ = some (.slice A7_0 (List.length x2) c7_0) := (cell_of_heap hBx2_16 0).trans ex2_0_15
  have zg0_16 : w8.heap.size < w16.heap.size := by omega
  have hBg0_16 : w16.heap[w8.heap.size]? = w15.heap[w8.heap.size]? := hk16.block _ zg0_15 (fun hy => by have := frX2.2 _ hy; omega)
  have eg0_0_16 : w16.cell? ⟨w8.heap.size, 0, none⟩ = some (.slice A8_0 (List.length (f0_IssueCertificate x0 x1 x2 a3).1) c8_0) := (cell_of_heap hBg0_16 0).trans eg0_0_15
  have eg0_1_16 : w16.cell? ⟨w8.heap.size, 1, none⟩ = some (.slice A8_1 (List.length (f0_IssueCertificate x0 x1 x2 a3).2.1) c8_1) := (cell_of_heap hBg0_16 1).trans eg0_1_15
  have eg0_2_16 : w16.cell? ⟨w8.heap.size, 2, none⟩ = some (.slice A8_2 (List.length (f0_IssueCertificate x0 x1 x2 a3).2.2.1) c8_2) := (cell_of_heap hBg0_16 2).trans eg0_2_15
  have eg0_3_16 : w16.cell? ⟨w8.heap.size, 3, none⟩ = some (.int .i64 (f0_IssueCertificate x0 x1 x2 a3).2.2.2.1) := (cell_of_heap hBg0_16 3).trans eg0_3_15
  have eg0_4_16 : w16.cell? ⟨w8.heap.size, 4, none⟩ = some (.int .i64 (f0_IssueCertificate x0 x1 x2 a3).2.2.2.2) := (cell_of_heap hBg0_16 4).trans eg0_4_15
  clear ea1_0_15 ea2_0_15 ew0_0_15 ew0_1_15 ew0_2_15 ew0_3_15 ew0_4_15 ex1_0_15 ex2_0_15 eg0_0_15 eg0_1_15 eg0_2_15 eg0_3_15 eg0_4_15
  go_wp2_with fail
  refine (C_laws_eqData _ _ _ (f0_IssueCertificate x0 x1 x2 a3) (Ty.ow_rd (Ty.ow_bel (by repeat' (first | (with_reducible exact Below.refl _ _) | (with_reducible assumption) | (with_reducible refine bel_set ?_ (by (try dsimp only); omega) _) | (with_reducible refine bel_alloc ?_ _) | (with_reducible refine bel_drewN ?_ _) | (with_reducible refine bel_drew ?_))) howG0_16)) (Ty.ow_rd (Ty.ow_bel (by repeat' (first | (with_reducible exact Below.refl _ _) | (with_reducible assumption) | (with_reducible refine bel_set ?_ (by (try dsimp only); omega) _) | (with_reducible refine bel_alloc ?_ _) | (with_reducible refine bel_drewN ?_ _) | (with_reducible refine bel_drew ?_))) howW0_16))).mono ?_
  rintro e w17 ⟨rfl, hb17⟩
  have st17 : Below w16.heap.size w16 w17 := bel_trans (by repeat' (first | (with_reducible exact Below.refl _ _) | (with_reducible assumption) | (with_reducible refine bel_set ?_ (by (try dsimp only); omega) _) | (with_reducible refine bel_alloc ?_ _) | (with_reducible refine bel_drewN ?_ _) | (with_reducible refine bel_drew ?_))) hb17
  have zz17 : w16.heap.size + 0 ≤ w17.heap.size := by have := hb17.size; (try simp only [World.size_alloc] at this); omega
  have vw_17 : Below w.heap.size w w17 := bel_trans vw_16 st17
  have vW0_17 : Below w16.heap.size w16 w17 := st17
  have vG0_17 : Below w16.heap.size w16 w17 := st17
  have za1_17 : w.heap.size < w17.heap.size := by omega
  have ea1_0_17 : w17.cell? ⟨w.heap.size, 0, none⟩ = some (.slice A10 (List.length x1) c10) := (hb17.cell (by (try simp only [World.size_alloc]); (try dsimp only); omega)).trans ea1_0_16
  have za2_17 : w.heap.size + 1 < w17.heap.size := by omega
  have ea2_0_17 : w17.cell? ⟨w.heap.size + 1, 0, none⟩ = some (.slice A20 (List.length x2) c20) := (hb17.cell (by (try simp only [World.size_alloc]); (try dsimp only); omega)).trans ea2_0_16
  have zw0_17 : gW0 < w17.heap.size := by omega
  have ew0_0_17 : w17.cell? ⟨gW0, 0, none⟩ = some (.slice Apq0 (List.length (f0_IssueCertificate x0 x1 x2 a3).1) cpq0) := (hb17.cell (by (try simp only [World.size_alloc]); (try dsimp only); omega)).trans ew0_0_16
  have ew0_1_17 : w17.cell? ⟨gW0, 1, none⟩ = some (.slice Apq1 (List.length (f0_IssueCertificate x0 x1 x2 a3).2.1) cpq1) := (hb17.cell (by (try simp only [World.size_alloc]); (try dsimp only); omega)).trans ew0_1_16
  have ew0_2_17 : w17.cell? ⟨gW0, 2, none⟩ = some (.slice Apq2 (List.length (f0_IssueCertificate x0 x1 x2 a3).2.2.1) cpq2) := (hb17.cell (by (try simp only [World.size_alloc]); (try dsimp only); omega)).trans ew0_2_16
  have ew0_3_17 : w17.cell? ⟨gW0, 3, none⟩ = some (.int .i64 (f0_IssueCertificate x0 x1 x2 a3).2.2.2.1) := (hb17.cell (by (try simp only [World.size_alloc]); (try dsimp only); omega)).trans ew0_3_16
  have ew0_4_17 : w17.cell? ⟨gW0, 4, none⟩ = some (.int .i64 (f0_IssueCertificate x0 x1 x2 a3).2.2.2.2) := (hb17.cell (by (try simp only [World.size_alloc]); (try dsimp only); omega)).trans ew0_4_16
  have zx1_17 : w6.heap.size < w17.heap.size := by omega
  have ex1_0_17 : w17.cell? ⟨w6.heap.size, 0, none⟩ = some (.slice A6_0 (List.length x1) c6_0) := (hb17.cell (by (try simp only [World.size_alloc]); (try dsimp only); omega)).trans ex1_0_16
  have zx2_17 : w7.heap.size < w17.heap.size := by omega
  have ex2_0_17 : w17.cell? ⟨w7.heap.size, 0, none⟩ = some (.slice A7_0 (List.length x2) c7_0) := (hb17.cell (by (try simp only [World.size_alloc]); (try dsimp only); omega)).trans ex2_0_16
  have zg0_17 : w8.heap.size < w17.heap.size := by omega
  have eg0_0_17 : w17.cell? ⟨w8.heap.size, 0, none⟩ = some (.slice A8_0 (List.length (f0_IssueCertificate x0 x1 x2 a3).1) c8_0) := (hb17.cell (by (try simp only [World.size_alloc]); (try dsimp only); omega)).trans eg0_0_16
  have eg0_1_17 : w17.cell? ⟨w8.heap.size, 1, none⟩ = some (.slice A8_1 (List.length (f0_IssueCertificate x0 x1 x2 a3).2.1) c8_1) := (hb17.cell (by (try simp only [World.size_alloc]); (try dsimp only); omega)).trans eg0_1_16
  have eg0_2_17 : w17.cell? ⟨w8.heap.size, 2, none⟩ = some (.slice A8_2 (List.length (f0_IssueCertificate x0 x1 x2 a3).2.2.1) c8_2) := (hb17.cell (by (try simp only [World.size_alloc]); (try dsimp only); omega)).trans eg0_2_16
  have eg0_3_17 : w17.cell? ⟨w8.heap.size, 3, none⟩ = some (.int .i64 (f0_IssueCertificate x0 x1 x2 a3).2.2.2.1) := (hb17.cell (by (try simp only [World.size_alloc]); (try dsimp only); omega)).trans eg0_3_16
  have eg0_4_17 : w17.cell? ⟨w8.heap.size, 4, none⟩ = some (.int .i64 (f0_IssueCertificate x0 x1 x2 a3).2.2.2.2) := (hb17.cell (by (try simp only [World.size_alloc]); (try dsimp only); omega)).trans eg0_4_16
  clear ea1_0_16 ea2_0_16 ew0_0_16 ew0_1_16 ew0_2_16 ew0_3_16 ew0_4_16 ex1_0_16 ex2_0_16 eg0_0_16 eg0_1_16 eg0_2_16 eg0_3_16 eg0_4_16
  go_wp2_with fail
  refine (C_laws_markData _ _ (f0_IssueCertificate x0 x1 x2 a3) fp8 (1) (Ty.ow_bel (by repeat' (first | (with_reducible exact Below.refl _ _) | (with_reducible assumption) | (with_reducible refine bel_set ?_ (by (try dsimp only); omega) _) | (with_reducible refine bel_alloc ?_ _) | (with_reducible refine bel_drewN ?_ _) | (with_reducible refine bel_drew ?_))) howG0_16) frG0.1 (by omega) (by omega)).mono ?_
  rintro e w18 ⟨rfl, hm18, hk18⟩
  have zz18 : w17.heap.size ≤ w18.heap.size := hk18.size
  have szl18 : w.heap.size ≤ w7.heap.size := vw_7.size
  have vw_18 : Below w.heap.size w w18 := vw_17.trans (hk18.below vw_17.size (fun y hy => by have := frG0.2 y hy; omega))
  have howW0_18 : Ty.ow w18 tData [.slice Apq0 (List.length (f0_IssueCertificate x0 x1 x2 a3).1) cpq0, .slice Apq1 (List.length (f0_IssueCertificate x0 x1 x2 a3).2.1) cpq1, .slice Apq2 (List.length (f0_IssueCertificate x0 x1 x2 a3).2.2.1) cpq2, .int .i64 (f0_IssueCertificate x0 x1 x2 a3).2.2.2.1, .int .i64 (f0_IssueCertificate x0 x1 x2 a3).2.2.2.2] (f0_IssueCertificate x0 x1 x2 a3) fp4 := Ty.ow_keep (fun y hy => (hk18.block y (Nat.lt_of_lt_of_le (Ty.ow_lt howW0_16 y hy) vW0_17.size) (fun hy2 => by have := frW0.2 y hy; have := frG0.2 y hy2; omega)).trans (vW0_17.block y (Ty.ow_lt howW0_16 y hy))) howW0_16
  have vW0_18 : Below w18.heap.size w18 w18 := Below.refl _ _
  have za1_18 : w.heap.size < w18.heap.size := by omega
  have hBa1_18 : w18.heap[w.heap.size]? = w17.heap[w.heap.size]? := hk18.block _ za1_17 (fun hy => by have := frG0.2 _ hy; omega)
  have ea1_0_18 : w18.cell? ⟨w.heap.size, 0, none⟩ = some (.slice A10 (List.length x1) c10) := (cell_of_heap hBa1_18 0).trans ea1_0_17
  have za2_18 : w.heap.size + 1 < w18.heap.size := by omega
  have hBa2_18 : w18.heap[w.heap.size + 1]? = w17.heap[w.heap.size + 1]? := hk18.block _ za2_17 (fun hy => by have := frG0.2 _ hy; omega)
  have ea2_0_18 : w18.cell? ⟨w.heap.size + 1, 0, none⟩ = some (.slice A20 (List.length x2) c20) := (cell_of_heap hBa2_18 0).trans ea2_0_17
  have zw0_18 : gW0 < w18.heap.size := by omega
  have hBw0_18 : w18.heap[gW0]? = w17.heap[gW0]? := hk18.block _ zw0_17 (fun hy => by have := frG0.2 _ hy; omega)
  have ew0_0_18 : w18.cell? ⟨gW0, 0, none⟩ = some (.slice Apq0 (List.length (f0_IssueCertificate x0 x1 x2 a3).1) cpq0) := (cell_of_heap hBw0_18 0).trans ew0_0_17
  have ew0_1_18 : w18.cell? ⟨gW0, 1, none⟩ = some (.slice Apq1 (List.length (f0_IssueCertificate x0 x1 x2 a3).2.1) cpq1) := (cell_of_heap hBw0_18 1).trans ew0_1_17
  have ew0_2_18 : w18.cell? ⟨gW0, 2, none⟩ = some (.slice Apq2 (List.length (f0_IssueCertificate x0 x1 x2 a3).2.2.1) cpq2) := (cell_of_heap hBw0_18 2).trans ew0_2_17
  have ew0_3_18 : w18.cell? ⟨gW0, 3, none⟩ = some (.int .i64 (f0_IssueCertificate x0 x1 x2 a3).2.2.2.1) := (cell_of_heap hBw0_18 3).trans ew0_3_17
  have ew0_4_18 : w18.cell? ⟨gW0, 4, none⟩ = some (.int .i64 (f0_IssueCertificate x0 x1 x2 a3).2.2.2.2) := (cell_of_heap hBw0_18 4).trans ew0_4_17
  have zx1_18 : w6.heap.size < w18.heap.size := by omega
  have hBx1_18 : w18.heap[w6.heap.size]? = w17.heap[w6.heap.size]? := hk18.block _ zx1_17 (fun hy => by have := frG0.2 _ hy; omega)
  have ex1_0_18 : w18.cell? ⟨w6.heap.size, 0, none⟩ = some (.slice A6_0 (List.length x1) c6_0) := (cell_of_heap hBx1_18 0).trans ex1_0_17
  have zx2_18 : w7.heap.size < w18.heap.size := by omega
  have hBx2_18 : w18.heap[w7.heap.size]? = w17.heap[w7.heap.size]? := hk18.block _ zx2_17 (fun hy => by have := frG0.2 _ hy; omega)
  have ex2_0_18 : w18.cell? ⟨w7.heap.size, 0, none⟩ = some (.slice A7_0 (List.length x2) c7_0) := (cell_of_heap hBx2_18 0).trans ex2_0_17
  have zg0_18 : w8.heap.size < w18.heap.size := by omega
  have hBg0_18 : w18.heap[w8.heap.size]? = w17.heap[w8.heap.size]? := hk18.block _ zg0_17 (fun hy => by have := frG0.2 _ hy; omega)
  have eg0_0_18 : w18.cell? ⟨w8.heap.size, 0, none⟩ = some (.slice A8_0 (List.length (f0_IssueCertificate x0 x1 x2 a3).1) c8_0) := (cell_of_heap hBg0_18 0).trans eg0_0_17
  have eg0_1_18 : w18.cell? ⟨w8.heap.size, 1, none⟩ = some (.slice A8_1 (List.length (f0_IssueCertificate x0 x1 x2 a3).2.1) c8_1) := (cell_of_heap hBg0_18 1).trans eg0_1_17
  have eg0_2_18 : w18.cell? ⟨w8.heap.size, 2, none⟩ = some (.slice A8_2 (List.length (f0_IssueCertificate x0 x1 x2 a3).2.2.1) c8_2) := (cell_of_heap hBg0_18 2).trans eg0_2_17
  have eg0_3_18 : w18.cell? ⟨w8.heap.size, 3, none⟩ = some (.int .i64 (f0_IssueCertificate x0 x1 x2 a3).2.2.2.1) := (cell_of_heap hBg0_18 3).trans eg0_3_17
  have eg0_4_18 : w18.cell? ⟨w8.heap.size, 4, none⟩ = some (.int .i64 (f0_IssueCertificate x0 x1 x2 a3).2.2.2.2) := (cell_of_heap hBg0_18 4).trans eg0_4_17
  clear ea1_0_17 ea2_0_17 ew0_0_17 ew0_1_17 ew0_2_17 ew0_3_17 ew0_4_17 ex1_0_17 ex2_0_17 eg0_0_17 eg0_1_17 eg0_2_17 eg0_3_17 eg0_4_17
  have frM : FrI (w7.heap.size + 1) w8.heap.size fp8 := frG0
  have vM0_18 : Below w18.heap.size w18 w18 := Below.refl _ _
  have hqm : ((1 + ((Ty.cntv tData (f0_IssueCertificate x0 x1 x2 a3) : Nat) : Int) : Int) != 1 + ((Ty.cntv tData (f0_IssueCertificate x0 x1 x2 a3) : Nat) : Int)) = false := by simp
  go_wp2_with fail
  refine (C_laws_heldData _ _ (f0_IssueCertificate x0 x1 x2 a3) 1 (Ty.ow_rd (Ty.ow_bel (by repeat' (first | (with_reducible exact Below.refl _ _) | (with_reducible assumption) | (with_reducible refine bel_set ?_ (by (try dsimp only); omega) _) | (with_reducible refine bel_alloc ?_ _) | (with_reducible refine bel_drewN ?_ _) | (with_reducible refine bel_drew ?_))) hm18)) (by omega) (by omega)).mono ?_
  rintro e w19 ⟨rfl, hb19⟩
  have st19 : Below w18.heap.size w18 w19 := bel_trans (by repeat' (first | (with_reducible exact Below.refl _ _) | (with_reducible assumption) | (with_reducible refine bel_set ?_ (by (try dsimp only); omega) _) | (with_reducible refine bel_alloc ?_ _) | (with_reducible refine bel_drewN ?_ _) | (with_reducible refine bel_drew ?_))) hb19
  have zz19 : w18.heap.size + 0 ≤ w19.heap.size := by have := hb19.size; (try simp only [World.size_alloc] at this); omega
  have vw_19 : Below w.heap.size w w19 := bel_trans vw_18 st19
  have vW0_19 : Below w18.heap.size w18 w19 := st19
  have vM0_19 : Below w18.heap.size w18 w19 := st19
  have za1_19 : w.heap.size < w19.heap.size := by omega
  have ea1_0_19 : w19.cell? ⟨w.heap.size, 0, none⟩ = some (.slice A10 (List.length x1) c10) := (hb19.cell (by (try simp only [World.size_alloc]); (try dsimp only); omega)).trans ea1_0_18
  have za2_19 : w.heap.size + 1 < w19.heap.size := by omega
  have ea2_0_19 : w19.cell? ⟨w.heap.size + 1, 0, none⟩ = some (.slice A20 (List.length x2) c20) := (hb19.cell (by (try simp only [World.size_alloc]); (try dsimp only); omega)).trans ea2_0_18
  have zw0_19 : gW0 < w19.heap.size := by omega
  have ew0_0_19 : w19.cell? ⟨gW0, 0, none⟩ = some (.slice Apq0 (List.length (f0_IssueCertificate x0 x1 x2 a3).1) cpq0) := (hb19.cell (by (try simp only [World.size_alloc]); (try dsimp only); omega)).trans ew0_0_18
  have ew0_1_19 : w19.cell? ⟨gW0, 1, none⟩ = some (.slice Apq1 (List.length (f0_IssueCertificate x0 x1 x2 a3).2.1) cpq1) := (hb19.cell (by (try simp only [World.size_alloc]); (try dsimp only); omega)).trans ew0_1_18
  have ew0_2_19 : w19.cell? ⟨gW0, 2, none⟩ = some (.slice Apq2 (List.length (f0_IssueCertificate x0 x1 x2 a3).2.2.1) cpq2) := (hb19.cell (by (try simp only [World.size_alloc]); (try dsimp only); omega)).trans ew0_2_18
  have ew0_3_19 : w19.cell? ⟨gW0, 3, none⟩ = some (.int .i64 (f0_IssueCertificate x0 x1 x2 a3).2.2.2.1) := (hb19.cell (by (try simp only [World.size_alloc]); (try dsimp only); omega)).trans ew0_3_18
  have ew0_4_19 : w19.cell? ⟨gW0, 4, none⟩ = some (.int .i64 (f0_IssueCertificate x0 x1 x2 a3).2.2.2.2) := (hb19.cell (by (try simp only [World.size_alloc]); (try dsimp only); omega)).trans ew0_4_18
  have zx1_19 : w6.heap.size < w19.heap.size := by omega
  have ex1_0_19 : w19.cell? ⟨w6.heap.size, 0, none⟩ = some (.slice A6_0 (List.length x1) c6_0) := (hb19.cell (by (try simp only [World.size_alloc]); (try dsimp only); omega)).trans ex1_0_18
  have zx2_19 : w7.heap.size < w19.heap.size := by omega
  have ex2_0_19 : w19.cell? ⟨w7.heap.size, 0, none⟩ = some (.slice A7_0 (List.length x2) c7_0) := (hb19.cell (by (try simp only [World.size_alloc]); (try dsimp only); omega)).trans ex2_0_18
  have zg0_19 : w8.heap.size < w19.heap.size := by omega
  have eg0_0_19 : w19.cell? ⟨w8.heap.size, 0, none⟩ = some (.slice A8_0 (List.length (f0_IssueCertificate x0 x1 x2 a3).1) c8_0) := (hb19.cell (by (try simp only [World.size_alloc]); (try dsimp only); omega)).trans eg0_0_18
  have eg0_1_19 : w19.cell? ⟨w8.heap.size, 1, none⟩ = some (.slice A8_1 (List.length (f0_IssueCertificate x0 x1 x2 a3).2.1) c8_1) := (hb19.cell (by (try simp only [World.size_alloc]); (try dsimp only); omega)).trans eg0_1_18
  have eg0_2_19 : w19.cell? ⟨w8.heap.size, 2, none⟩ = some (.slice A8_2 (List.length (f0_IssueCertificate x0 x1 x2 a3).2.2.1) c8_2) := (hb19.cell (by (try simp only [World.size_alloc]); (try dsimp only); omega)).trans eg0_2_18
  have eg0_3_19 : w19.cell? ⟨w8.heap.size, 3, none⟩ = some (.int .i64 (f0_IssueCertificate x0 x1 x2 a3).2.2.2.1) := (hb19.cell (by (try simp only [World.size_alloc]); (try dsimp only); omega)).trans eg0_3_18
  have eg0_4_19 : w19.cell? ⟨w8.heap.size, 4, none⟩ = some (.int .i64 (f0_IssueCertificate x0 x1 x2 a3).2.2.2.2) := (hb19.cell (by (try simp only [World.size_alloc]); (try dsimp only); omega)).trans eg0_4_18
  clear ea1_0_18 ea2_0_18 ew0_0_18 ew0_1_18 ew0_2_18 ew0_3_18 ew0_4_18 ex1_0_18 ex2_0_18 eg0_0_18 eg0_1_18 eg0_2_18 eg0_3_18 eg0_4_18
  have HSr : Hid (∀ W, Below w19.heap.size w19 W → Below w19.heap.size w19 W ∧ W.cell? ⟨w.heap.size, 0, none⟩ = some (.slice A10 (List.length x1) c10) ∧ W.cell? ⟨w.heap.size + 1, 0, none⟩ = some (.slice A20 (List.length x2) c20) ∧ W.cell? ⟨gW0, 0, none⟩ = some (.slice Apq0 (List.length (f0_IssueCertificate x0 x1 x2 a3).1) cpq0) ∧ W.cell? ⟨gW0, 1, none⟩ = some (.slice Apq1 (List.length (f0_IssueCertificate x0 x1 x2 a3).2.1) cpq1) ∧ W.cell? ⟨gW0, 2, none⟩ = some (.slice Apq2 (List.length (f0_IssueCertificate x0 x1 x2 a3).2.2.1) cpq2) ∧ W.cell? ⟨gW0, 3, none⟩ = some (.int .i64 (f0_IssueCertificate x0 x1 x2 a3).2.2.2.1) ∧ W.cell? ⟨gW0, 4, none⟩ = some (.int .i64 (f0_IssueCertificate x0 x1 x2 a3).2.2.2.2) ∧ W.cell? ⟨w6.heap.size, 0, none⟩ = some (.slice A6_0 (List.length x1) c6_0) ∧ W.cell? ⟨w7.heap.size, 0, none⟩ = some (.slice A7_0 (List.length x2) c7_0) ∧ W.cell? ⟨w8.heap.size, 0, none⟩ = some (.slice A8_0 (List.length (f0_IssueCertificate x0 x1 x2 a3).1) c8_0) ∧ W.cell? ⟨w8.heap.size, 1, none⟩ = some (.slice A8_1 (List.length (f0_IssueCertificate x0 x1 x2 a3).2.1) c8_1) ∧ W.cell? ⟨w8.heap.size, 2, none⟩ = some (.slice A8_2 (List.length (f0_IssueCertificate x0 x1 x2 a3).2.2.1) c8_2) ∧ W.cell? ⟨w8.heap.size, 3, none⟩ = some (.int .i64 (f0_IssueCertificate x0 x1 x2 a3).2.2.2.1) ∧ W.cell? ⟨w8.heap.size, 4, none⟩ = some (.int .i64 (f0_IssueCertificate x0 x1 x2 a3).2.2.2.2)) := fun W hW => ⟨hW, (hW.cell za1_19).trans ea1_0_19, (hW.cell za2_19).trans ea2_0_19, (hW.cell zw0_19).trans ew0_0_19, (hW.cell zw0_19).trans ew0_1_19, (hW.cell zw0_19).trans ew0_2_19, (hW.cell zw0_19).trans ew0_3_19, (hW.cell zw0_19).trans ew0_4_19, (hW.cell zx1_19).trans ex1_0_19, (hW.cell zx2_19).trans ex2_0_19, (hW.cell zg0_19).trans eg0_0_19, (hW.cell zg0_19).trans eg0_1_19, (hW.cell zg0_19).trans eg0_2_19, (hW.cell zg0_19).trans eg0_3_19, (hW.cell zg0_19).trans eg0_4_19⟩
  have hvr : Below w19.heap.size w19 w19 := Below.refl _ _
  go_upto_region 38 with fail
  go_cut [20, 21] (fun sp sq wx => ∃ (g : Nat) (Arq0 : Option Addr) (crq0 : Nat) (Arq1 : Option Addr) (crq1 : Nat) (Arq2 : Option Addr) (crq2 : Nat) (fp : List Nat), sp = .pointer (some ⟨g, 0, none⟩) ∧ sq = .bool ((f1_IssueCertificate x0 x1 x2 a3)) ∧ Blk wx g 31 #[.slice Arq0 (List.length (f0_IssueCertificate x0 x1 x2 a3).1) crq0, .slice Arq1 (List.length (f0_IssueCertificate x0 x1 x2 a3).2.1) crq1, .slice Arq2 (List.length (f0_IssueCertificate x0 x1 x2 a3).2.2.1) crq2, .int .i64 (f0_IssueCertificate x0 x1 x2 a3).2.2.2.1, .int .i64 (f0_IssueCertificate x0 x1 x2 a3).2.2.2.2] ∧ Ty.ow wx tData [.slice Arq0 (List.length (f0_IssueCertificate x0 x1 x2 a3).1) crq0, .slice Arq1 (List.length (f0_IssueCertificate x0 x1 x2 a3).2.1) crq1, .slice Arq2 (List.length (f0_IssueCertificate x0 x1 x2 a3).2.2.1) crq2, .int .i64 (f0_IssueCertificate x0 x1 x2 a3).2.2.2.1, .int .i64 (f0_IssueCertificate x0 x1 x2 a3).2.2.2.2] (f0_IssueCertificate x0 x1 x2 a3) fp ∧ FrI w19.heap.size wx.heap.size fp ∧ Below w19.heap.size w19 wx)
  case first =>
    go_wp2_with fail
    refine wp_region_noPanic ?_
    refine wp_region_held_drew (S := fun W => Below w19.heap.size w19 W ∧ W.cell? ⟨w.heap.size, 0, none⟩ = some (.slice A10 (List.length x1) c10) ∧ W.cell? ⟨w.heap.size + 1, 0, none⟩ = some (.slice A20 (List.length x2) c20) ∧ W.cell? ⟨gW0, 0, none⟩ = some (.slice Apq0 (List.length (f0_IssueCertificate x0 x1 x2 a3).1) cpq0) ∧ W.cell? ⟨gW0, 1, none⟩ = some (.slice Apq1 (List.length (f0_IssueCertificate x0 x1 x2 a3).2.1) cpq1) ∧ W.cell? ⟨gW0, 2, none⟩ = some (.slice Apq2 (List.length (f0_IssueCertificate x0 x1 x2 a3).2.2.1) cpq2) ∧ W.cell? ⟨gW0, 3, none⟩ = some (.int .i64 (f0_IssueCertificate x0 x1 x2 a3).2.2.2.1) ∧ W.cell? ⟨gW0, 4, none⟩ = some (.int .i64 (f0_IssueCertificate x0 x1 x2 a3).2.2.2.2) ∧ W.cell? ⟨w6.heap.size, 0, none⟩ = some (.slice A6_0 (List.length x1) c6_0) ∧ W.cell? ⟨w7.heap.size, 0, none⟩ = some (.slice A7_0 (List.length x2) c7_0) ∧ W.cell? ⟨w8.heap.size, 0, none⟩ = some (.slice A8_0 (List.length (f0_IssueCertificate x0 x1 x2 a3).1) c8_0) ∧ W.cell? ⟨w8.heap.size, 1, none⟩ = some (.slice A8_1 (List.length (f0_IssueCertificate x0 x1 x2 a3).2.1) c8_1) ∧ W.cell? ⟨w8.heap.size, 2, none⟩ = some (.slice A8_2 (List.length (f0_IssueCertificate x0 x1 x2 a3).2.2.1) c8_2) ∧ W.cell? ⟨w8.heap.size, 3, none⟩ = some (.int .i64 (f0_IssueCertificate x0 x1 x2 a3).2.2.2.1) ∧ W.cell? ⟨w8.heap.size, 4, none⟩ = some (.int .i64 (f0_IssueCertificate x0 x1 x2 a3).2.2.2.2)) (by kernel_rfl) ?_ (fun hHeld => ?_)
    · exact HSr.out _ (by (repeat' (first | (with_reducible exact Below.refl _ _) | (with_reducible assumption) | (with_reducible refine bel_set ?_ (by (try dsimp only); omega) _) | (with_reducible refine bel_alloc ?_ _) | (with_reducible refine bel_drewN ?_ _) | (with_reducible refine bel_drew ?_) | (with_reducible refine bel_trans ?_ (by assumption)))); done)
    refine tk 0 (opN rfl) (by kernel_rfl) (by rfl) (by (intro w hSw; (try dsimp only at hSw); go_simp; first | done | with_reducible rfl)) (by assumption) ?_
    try simp only [Act.put, List.setIfInBounds_toArray, List.set_cons_zero, List.set_cons_succ]
    refine tk 2 (opN rfl) (by kernel_rfl) (by rfl) (by (intro w hSw; (try dsimp only at hSw); go_simp; first | done | with_reducible rfl)) (by assumption) ?_
    try simp only [Act.put, List.setIfInBounds_toArray, List.set_cons_zero, List.set_cons_succ]
    refine tk 4 (opN rfl) (by kernel_rfl) (by rfl) (by (intro w hSw; (try dsimp only at hSw); go_simp; first | done | with_reducible rfl)) (by assumption) ?_
    try simp only [Act.put, List.setIfInBounds_toArray, List.set_cons_zero, List.set_cons_succ]
    refine tk 6 (opN rfl) (by kernel_rfl) (by rfl) (by (intro w hSw; (try dsimp only at hSw); go_simp; first | done | with_reducible rfl)) (by assumption) ?_
    try simp only [Act.put, List.setIfInBounds_toArray, List.set_cons_zero, List.set_cons_succ]
    refine wpAnyH_ready (rs := [1, 11]) (by kernel_rfl) (by simp) ?_
    refine (AllReadyH.cons (opN rfl) (fun K hK => ?_) (AllReadyH.cons (opN rfl) (fun K hK => ?_) AllReadyH.nil))
    · go_simp
      go_at_call 24
      refine (C_laws_toKeyS _ _ x0 (Ty.rd_below (by (repeat' (first | (with_reducible exact Below.refl _ _) | (with_reducible assumption) | (with_reducible refine bel_set ?_ (by (try dsimp only); omega) _) | (with_reducible refine bel_alloc ?_ _) | (with_reducible refine bel_drewN ?_ _) | (with_reducible refine bel_drew ?_) | (with_reducible refine bel_trans ?_ (by assumption)))); done) h0) s0).mono ?_
      rintro e wr0 ⟨Ar0, cr0, fpr0, rfl, howr0, hfrr0, hbr0⟩
      have hzr0 := hbr0.size
      try simp only [World.size_alloc, World.size_drew, size_drewN] at hzr0
      refine hK.out _ _ ?_ (fun hHeld => ?_)
      · (try dsimp only)
        exact HSr.out _ (by (repeat' (first | (with_reducible exact Below.refl _ _) | (with_reducible assumption) | (with_reducible refine bel_set ?_ (by (try dsimp only); omega) _) | (with_reducible refine bel_alloc ?_ _) | (with_reducible refine bel_drewN ?_ _) | (with_reducible refine bel_drew ?_) | (with_reducible refine bel_trans ?_ (by assumption)))); done)
      clear hK K
      try simp only [Act.put, List.setIfInBounds_toArray, List.set_cons_zero, List.set_cons_succ]
      refine wpAnyH_ready (rs := [3, 11]) (by kernel_rfl) (by simp) ?_
      refine (AllReadyH.cons (opN rfl) (fun K hK => ?_) (AllReadyH.cons (opN rfl) (fun K hK => ?_) AllReadyH.nil))
      · go_simp
        go_at_call 35
        refine (C_laws_toName _ _ x1 (Ty.rd_below (by (repeat' (first | (with_reducible exact Below.refl _ _) | (with_reducible assumption) | (with_reducible refine bel_set ?_ (by (try dsimp only); omega) _) | (with_reducible refine bel_alloc ?_ _) | (with_reducible refine bel_drewN ?_ _) | (with_reducible refine bel_drew ?_) | (with_reducible refine bel_trans ?_ (by assumption)))); done) h1) s1).mono ?_
        rintro e wr1 ⟨csr1, fpr1, rfl, howr1, hfrr1, hbr1⟩
        have hzr1 := hbr1.size
        try simp only [World.size_alloc, World.size_drew, size_drewN] at hzr1
        refine hK.out _ _ ?_ (fun hHeld => ?_)
        · (try dsimp only)
          exact HSr.out _ (by (repeat' (first | (with_reducible exact Below.refl _ _) | (with_reducible assumption) | (with_reducible refine bel_set ?_ (by (try dsimp only); omega) _) | (with_reducible refine bel_alloc ?_ _) | (with_reducible refine bel_drewN ?_ _) | (with_reducible refine bel_drew ?_) | (with_reducible refine bel_trans ?_ (by assumption)))); done)
        clear hK K
        try simp only [Act.put, List.setIfInBounds_toArray, List.set_cons_zero, List.set_cons_succ]
        refine wpAnyH_ready (rs := [5, 11]) (by kernel_rfl) (by simp) ?_
        refine (AllReadyH.cons (opN rfl) (fun K hK => ?_) (AllReadyH.cons (opN rfl) (fun K hK => ?_) AllReadyH.nil))
        · go_simp
          go_at_call 35
          refine (C_laws_toName _ _ x2 (Ty.rd_below (by (repeat' (first | (with_reducible exact Below.refl _ _) | (with_reducible assumption) | (with_reducible refine bel_set ?_ (by (try dsimp only); omega) _) | (with_reducible refine bel_alloc ?_ _) | (with_reducible refine bel_drewN ?_ _) | (with_reducible refine bel_drew ?_) | (with_reducible refine bel_trans ?_ (by assumption)))); done) h2) s2).mono ?_
          rintro e wr2 ⟨csr2, fpr2, rfl, howr2, hfrr2, hbr2⟩
          have hzr2 := hbr2.size
          try simp only [World.size_alloc, World.size_drew, size_drewN] at hzr2
          refine hK.out _ _ ?_ (fun hHeld => ?_)
          · (try dsimp only)
            exact HSr.out _ (by (repeat' (first | (with_reducible exact Below.refl _ _) | (with_reducible assumption) | (with_reducible refine bel_set ?_ (by (try dsimp only); omega) _) | (with_reducible refine bel_alloc ?_ _) | (with_reducible refine bel_drewN ?_ _) | (with_reducible refine bel_drew ?_) | (with_reducible refine bel_trans ?_ (by assumption)))); done)
          clear hK K
          try simp only [Act.put, List.setIfInBounds_toArray, List.set_cons_zero, List.set_cons_succ]
          refine wpAnyH_ready (rs := [7, 11]) (by kernel_rfl) (by simp) ?_
          refine (AllReadyH.cons (opN rfl) (fun K hK => ?_) (AllReadyH.cons (opN rfl) (fun K hK => ?_) AllReadyH.nil))
          · go_simp
            go_at_call 43
            refine (C_impl_IssueCertificate _ _ x0 _ x1 _ x2 a3 (Ty.rd_below (by (repeat' (first | (with_reducible exact Below.refl _ _) | (with_reducible assumption) | (with_reducible refine bel_set ?_ (by (try dsimp only); omega) _) | (with_reducible refine bel_alloc ?_ _) | (with_reducible refine bel_drewN ?_ _) | (with_reducible refine bel_drew ?_) | (with_reducible refine bel_trans ?_ (by assumption)))); done) (Ty.ow_rd howr0)) (Ty.rd_below (by (repeat' (first | (with_reducible exact Below.refl _ _) | (with_reducible assumption) | (with_reducible refine bel_set ?_ (by (try dsimp only); omega) _) | (with_reducible refine bel_alloc ?_ _) | (with_reducible refine bel_drewN ?_ _) | (with_reducible refine bel_drew ?_) | (with_reducible refine bel_trans ?_ (by assumption)))); done) (Ty.ow_rd howr1)) (Ty.rd_below (by (repeat' (first | (with_reducible exact Below.refl _ _) | (with_reducible assumption) | (with_reducible refine bel_set ?_ (by (try dsimp only); omega) _) | (with_reducible refine bel_alloc ?_ _) | (with_reducible refine bel_drewN ?_ _) | (with_reducible refine bel_drew ?_) | (with_reducible refine bel_trans ?_ (by assumption)))); done) (Ty.ow_rd howr2)) s0 s1 s2 i3).mono ?_
            rintro e w20 ⟨cs20_, fp20, rfl, how20, hfr20, hb20⟩
            obtain ⟨Arq0, crq0, Arq1, crq1, Arq2, crq2, rfl⟩ := ow_Data how20
            have hz20 := hb20.size
            try simp only [World.size_alloc, World.size_drew, size_drewN] at hz20
            refine hK.out _ _ ?_ (fun hHeld => ?_)
            · (try dsimp only)
              exact HSr.out _ (by (repeat' (first | (with_reducible exact Below.refl _ _) | (with_reducible assumption) | (with_reducible refine bel_set ?_ (by (try dsimp only); omega) _) | (with_reducible refine bel_alloc ?_ _) | (with_reducible refine bel_drewN ?_ _) | (with_reducible refine bel_drew ?_) | (with_reducible refine bel_trans ?_ (by assumption)))); done)
            clear hK K
            try simp only [Act.put, List.setIfInBounds_toArray, List.set_cons_zero, List.set_cons_succ]
            refine tk 8 (opN rfl) (by kernel_rfl) (by rfl) (by (intro w hSw; (try dsimp only at hSw); go_simp; first | done | with_reducible rfl)) (by assumption) ?_
            try simp only [Act.put, List.setIfInBounds_toArray, List.set_cons_zero, List.set_cons_succ]
            refine tk 9 (opN rfl) (by kernel_rfl) (by rfl) (by (intro w hSw; (try dsimp only at hSw); go_simp; first | done | with_reducible rfl)) (by assumption) ?_
            try simp only [Act.put, List.setIfInBounds_toArray, List.set_cons_zero, List.set_cons_succ]
            refine tk 10 (opN rfl) (by kernel_rfl) (by rfl) (by (intro w hSw; (try dsimp only at hSw); go_simp; first | done | with_reducible rfl)) (by assumption) ?_
            try simp only [Act.put, List.setIfInBounds_toArray, List.set_cons_zero, List.set_cons_succ]
            refine wpAnyH_ready (rs := [11]) (by kernel_rfl) (by simp) ?_
            refine (AllReadyH.cons (opN rfl) (fun K hK => ?_) AllReadyH.nil)
            go_simp
            refine hK.out _ _ ?_ (fun hHeld => ?_)
            · (try dsimp only)
              exact HSr.out _ (by (repeat' (first | (with_reducible exact Below.refl _ _) | (with_reducible assumption) | (with_reducible refine bel_set ?_ (by (try dsimp only); omega) _) | (with_reducible refine bel_alloc ?_ _) | (with_reducible refine bel_drewN ?_ _) | (with_reducible refine bel_drew ?_) | (with_reducible refine bel_trans ?_ (by assumption)))); done)
            clear hK K
            try simp only [Act.put, List.setIfInBounds_toArray, List.set_cons_zero, List.set_cons_succ]
            refine wpAnyH_ready (rs := [12]) (by kernel_rfl) (by simp) ?_
            refine (AllReadyH.cons (opN rfl) (fun K hK => ?_) AllReadyH.nil)
            go_simp
            refine hK.out _ _ ?_ (fun hHeld => ?_)
            · (try dsimp only)
              exact HSr.out _ (by (repeat' (first | (with_reducible exact Below.refl _ _) | (with_reducible assumption) | (with_reducible refine bel_set ?_ (by (try dsimp only); omega) _) | (with_reducible refine bel_alloc ?_ _) | (with_reducible refine bel_drewN ?_ _) | (with_reducible refine bel_drew ?_) | (with_reducible refine bel_trans ?_ (by assumption)))); done)
            clear hK K
            try simp only [Act.put, List.setIfInBounds_toArray, List.set_cons_zero, List.set_cons_succ]
            refine tk 13 (opN rfl) (by kernel_rfl) (by rfl) (by (intro w hSw; (try dsimp only at hSw); go_simp; first | done | with_reducible rfl)) (by assumption) ?_
            try simp only [Act.put, List.setIfInBounds_toArray, List.set_cons_zero, List.set_cons_succ]
            refine wpAnyH_done (by kernel_rfl) ?_ _
            refine NoPanic.normal ?_
            go_wp2_with fail
            go_meet
            refine ⟨_, Arq0, crq0, Arq1, crq1, Arq2, crq2, fp20, rfl, rfl, ?_, ?_, ?_, ?_⟩
            · exact Blk.new _ _ _
            · exact Ty.ow_bel (bel_alloc (Below.refl _ _) _) how20
            · exact hfr20.mono (by (try simp only [World.size_alloc, World.size_setCell, World.size_drew, size_drewN]); omega) (by (try simp only [World.size_alloc, World.size_setCell, World.size_drew, size_drewN]); omega)
            · exact (by (repeat' (first | (with_reducible exact Below.refl _ _) | (with_reducible assumption) | (with_reducible refine bel_set ?_ (by (try dsimp only); omega) _) | (with_reducible refine bel_alloc ?_ _) | (with_reducible refine bel_drewN ?_ _) | (with_reducible refine bel_drew ?_) | (with_reducible refine bel_trans ?_ (by assumption)))); done)
          · go_simp
            refine hK.out _ _ ?_ (fun hHeld => ?_)
            · (try dsimp only)
              exact HSr.out _ (by (repeat' (first | (with_reducible exact Below.refl _ _) | (with_reducible assumption) | (with_reducible refine bel_set ?_ (by (try dsimp only); omega) _) | (with_reducible refine bel_alloc ?_ _) | (with_reducible refine bel_drewN ?_ _) | (with_reducible refine bel_drew ?_) | (with_reducible refine bel_trans ?_ (by assumption)))); done)
            clear hK K
            try simp only [Act.put, List.setIfInBounds_toArray, List.set_cons_zero, List.set_cons_succ]
            refine wpAnyH_ready (rs := [7]) (by kernel_rfl) (by simp) ?_
            refine (AllReadyH.cons (opN rfl) (fun K hK => ?_) AllReadyH.nil)
            go_simp
            go_at_call 43
            refine (C_impl_IssueCertificate _ _ x0 _ x1 _ x2 a3 (Ty.rd_below (by (repeat' (first | (with_reducible exact Below.refl _ _) | (with_reducible assumption) | (with_reducible refine bel_set ?_ (by (try dsimp only); omega) _) | (with_reducible refine bel_alloc ?_ _) | (with_reducible refine bel_drewN ?_ _) | (with_reducible refine bel_drew ?_) | (with_reducible refine bel_trans ?_ (by assumption)))); done) (Ty.ow_rd howr0)) (Ty.rd_below (by (repeat' (first | (with_reducible exact Below.refl _ _) | (with_reducible assumption) | (with_reducible refine bel_set ?_ (by (try dsimp only); omega) _) | (with_reducible refine bel_alloc ?_ _) | (with_reducible refine bel_drewN ?_ _) | (with_reducible refine bel_drew ?_) | (with_reducible refine bel_trans ?_ (by assumption)))); done) (Ty.ow_rd howr1)) (Ty.rd_below (by (repeat' (first | (with_reducible exact Below.refl _ _) | (with_reducible assumption) | (with_reducible refine bel_set ?_ (by (try dsimp only); omega) _) | (with_reducible refine bel_alloc ?_ _) | (with_reducible refine bel_drewN ?_ _) | (with_reducible refine bel_drew ?_) | (with_reducible refine bel_trans ?_ (by assumption)))); done) (Ty.ow_rd howr2)) s0 s1 s2 i3).mono ?_
            rintro e w20 ⟨cs20_, fp20, rfl, how20, hfr20, hb20⟩
            obtain ⟨Arq0, crq0, Arq1, crq1, Arq2, crq2, rfl⟩ := ow_Data how20
            have hz20 := hb20.size
            try simp only [World.size_alloc, World.size_drew, size_drewN] at hz20
            refine hK.out _ _ ?_ (fun hHeld => ?_)
            · (try dsimp only)
              exact HSr.out _ (by (repeat' (first | (with_reducible exact Below.refl _ _) | (with_reducible assumption) | (with_reducible refine bel_set ?_ (by (try dsimp only); omega) _) | (with_reducible refine bel_alloc ?_ _) | (with_reducible refine bel_drewN ?_ _) | (with_reducible refine bel_drew ?_) | (with_reducible refine bel_trans ?_ (by assumption)))); done)
            clear hK K
            try simp only [Act.put, List.setIfInBounds_toArray, List.set_cons_zero, List.set_cons_succ]
            refine tk 8 (opN rfl) (by kernel_rfl) (by rfl) (by (intro w hSw; (try dsimp only at hSw); go_simp; first | done | with_reducible rfl)) (by assumption) ?_
            try simp only [Act.put, List.setIfInBounds_toArray, List.set_cons_zero, List.set_cons_succ]
            refine tk 9 (opN rfl) (by kernel_rfl) (by rfl) (by (intro w hSw; (try dsimp only at hSw); go_simp; first | done | with_reducible rfl)) (by assumption) ?_
            try simp only [Act.put, List.setIfInBounds_toArray, List.set_cons_zero, List.set_cons_succ]
            refine tk 10 (opN rfl) (by kernel_rfl) (by rfl) (by (intro w hSw; (try dsimp only at hSw); go_simp; first | done | with_reducible rfl)) (by assumption) ?_
            try simp only [Act.put, List.setIfInBounds_toArray, List.set_cons_zero, List.set_cons_succ]
            have hG : Blk w20 (wr2.heap.size) 31 #[.slice none 0 0, .slice none 0 0, .slice none 0 0, .int .i64 0, .int .i64 0] := by
              refine Blk.below (B := _) ?_ hb20 (by (try simp only [World.size_alloc, World.size_setCell, World.size_drew, size_drewN]); omega)
              first | exact Blk.new _ _ _ | exact Blk.drew (Blk.new _ _ _) | exact Blk.drewN (Blk.new _ _ _) _
            have kG0 : w20.cell? ⟨wr2.heap.size, 0, none⟩ = some (.slice none 0 0) := hG.cell 0
            have fG0 := hG.frozen 0
            have kG1 : w20.cell? ⟨wr2.heap.size, 1, none⟩ = some (.slice none 0 0) := hG.cell 1
            have fG1 := hG.frozen 1
            have kG2 : w20.cell? ⟨wr2.heap.size, 2, none⟩ = some (.slice none 0 0) := hG.cell 2
            have fG2 := hG.frozen 2
            have kG3 : w20.cell? ⟨wr2.heap.size, 3, none⟩ = some (.int .i64 0) := hG.cell 3
            have fG3 := hG.frozen 3
            have kG4 : w20.cell? ⟨wr2.heap.size, 4, none⟩ = some (.int .i64 0) := hG.cell 4
            have fG4 := hG.frozen 4
            have zG := hG.lt
            refine wpAnyH_ready (rs := [12]) (by kernel_rfl) (by simp) ?_
            refine (AllReadyH.cons (opN rfl) (fun K hK => ?_) AllReadyH.nil)
            go_simp
            refine hK.out _ _ ?_ (fun hHeld => ?_)
            · (try dsimp only)
              exact HSr.out _ (by (repeat' (first | (with_reducible exact Below.refl _ _) | (with_reducible assumption) | (with_reducible refine bel_set ?_ (by (try dsimp only); omega) _) | (with_reducible refine bel_alloc ?_ _) | (with_reducible refine bel_drewN ?_ _) | (with_reducible refine bel_drew ?_) | (with_reducible refine bel_trans ?_ (by assumption)))); done)
            clear hK K
            try simp only [Act.put, List.setIfInBounds_toArray, List.set_cons_zero, List.set_cons_succ]
            refine tk 13 (opN rfl) (by kernel_rfl) (by rfl) (by (intro w hSw; (try dsimp only at hSw); go_simp; first | done | with_reducible rfl)) (by assumption) ?_
            try simp only [Act.put, List.setIfInBounds_toArray, List.set_cons_zero, List.set_cons_succ]
            refine wpAnyH_done (by kernel_rfl) ?_ _
            refine NoPanic.normal ?_
            go_wp2_with fail
            go_meet
            refine ⟨_, Arq0, crq0, Arq1, crq1, Arq2, crq2, fp20, rfl, rfl, ?_, ?_, ?_, ?_⟩
            · exact (Blk.set_ (Blk.set_ (Blk.set_ (Blk.set_ (Blk.set_ hG 0 _) 1 _) 2 _) 3 _) 4 _)
            · exact Ty.ow_keep (by intro b hb'; have hb'' := (hfr20).2 b hb'; (try simp only [World.size_alloc, World.size_setCell, size_drewN, World.size_drew] at hb''); repeat (first | (with_reducible rfl) | (rw [Below.heap_setCell _ _ _ _ (by (try dsimp only); omega)]) | (rw [Below.heap_alloc _ _ _ (by (try simp only [World.size_alloc, World.size_setCell]); omega)]))) how20
            · exact hfr20.mono (by (try simp only [World.size_alloc, World.size_setCell, World.size_drew, size_drewN]); omega) (by (try simp only [World.size_alloc, World.size_setCell, World.size_drew, size_drewN]); omega)
            · exact (by (repeat' (first | (with_reducible exact Below.refl _ _) | (with_reducible assumption) | (with_reducible refine bel_set ?_ (by (try dsimp only); omega) _) | (with_reducible refine bel_alloc ?_ _) | (with_reducible refine bel_drewN ?_ _) | (with_reducible refine bel_drew ?_) | (with_reducible refine bel_trans ?_ (by assumption)))); done)
        · go_simp
          refine hK.out _ _ ?_ (fun hHeld => ?_)
          · (try dsimp only)
            exact HSr.out _ (by (repeat' (first | (with_reducible exact Below.refl _ _) | (with_reducible assumption) | (with_reducible refine bel_set ?_ (by (try dsimp only); omega) _) | (with_reducible refine bel_alloc ?_ _) | (with_reducible refine bel_drewN ?_ _) | (with_reducible refine bel_drew ?_) | (with_reducible refine bel_trans ?_ (by assumption)))); done)
          clear hK K
          try simp only [Act.put, List.setIfInBounds_toArray, List.set_cons_zero, List.set_cons_succ]
          refine wpAnyH_ready (rs := [5]) (by kernel_rfl) (by simp) ?_
          refine (AllReadyH.cons (opN rfl) (fun K hK => ?_) AllReadyH.nil)
          go_simp
          go_at_call 35
          refine (C_laws_toName _ _ x2 (Ty.rd_below (by (repeat' (first | (with_reducible exact Below.refl _ _) | (with_reducible assumption) | (with_reducible refine bel_set ?_ (by (try dsimp only); omega) _) | (with_reducible refine bel_alloc ?_ _) | (with_reducible refine bel_drewN ?_ _) | (with_reducible refine bel_drew ?_) | (with_reducible refine bel_trans ?_ (by assumption)))); done) h2) s2).mono ?_
          rintro e wr2 ⟨csr2, fpr2, rfl, howr2, hfrr2, hbr2⟩
          have hzr2 := hbr2.size
          try simp only [World.size_alloc, World.size_drew, size_drewN] at hzr2
          refine hK.out _ _ ?_ (fun hHeld => ?_)
          · (try dsimp only)
            exact HSr.out _ (by (repeat' (first | (with_reducible exact Below.refl _ _) | (with_reducible assumption) | (with_reducible refine bel_set ?_ (by (try dsimp only); omega) _) | (with_reducible refine bel_alloc ?_ _) | (with_reducible refine bel_drewN ?_ _) | (with_reducible refine bel_drew ?_) | (with_reducible refine bel_trans ?_ (by assumption)))); done)
          clear hK K
          try simp only [Act.put, List.setIfInBounds_toArray, List.set_cons_zero, List.set_cons_succ]
          refine wpAnyH_ready (rs := [7]) (by kernel_rfl) (by simp) ?_
          refine (AllReadyH.cons (opN rfl) (fun K hK => ?_) AllReadyH.nil)
          go_simp
          go_at_call 43
          refine (C_impl_IssueCertificate _ _ x0 _ x1 _ x2 a3 (Ty.rd_below (by (repeat' (first | (with_reducible exact Below.refl _ _) | (with_reducible assumption) | (with_reducible refine bel_set ?_ (by (try dsimp only); omega) _) | (with_reducible refine bel_alloc ?_ _) | (with_reducible refine bel_drewN ?_ _) | (with_reducible refine bel_drew ?_) | (with_reducible refine bel_trans ?_ (by assumption)))); done) (Ty.ow_rd howr0)) (Ty.rd_below (by (repeat' (first | (with_reducible exact Below.refl _ _) | (with_reducible assumption) | (with_reducible refine bel_set ?_ (by (try dsimp only); omega) _) | (with_reducible refine bel_alloc ?_ _) | (with_reducible refine bel_drewN ?_ _) | (with_reducible refine bel_drew ?_) | (with_reducible refine bel_trans ?_ (by assumption)))); done) (Ty.ow_rd howr1)) (Ty.rd_below (by (repeat' (first | (with_reducible exact Below.refl _ _) | (with_reducible assumption) | (with_reducible refine bel_set ?_ (by (try dsimp only); omega) _) | (with_reducible refine bel_alloc ?_ _) | (with_reducible refine bel_drewN ?_ _) | (with_reducible refine bel_drew ?_) | (with_reducible refine bel_trans ?_ (by assumption)))); done) (Ty.ow_rd howr2)) s0 s1 s2 i3).mono ?_
          rintro e w20 ⟨cs20_, fp20, rfl, how20, hfr20, hb20⟩
          obtain ⟨Arq0, crq0, Arq1, crq1, Arq2, crq2, rfl⟩ := ow_Data how20
          have hz20 := hb20.size
          try simp only [World.size_alloc, World.size_drew, size_drewN] at hz20
          refine hK.out _ _ ?_ (fun hHeld => ?_)
          · (try dsimp only)
            exact HSr.out _ (by (repeat' (first | (with_reducible exact Below.refl _ _) | (with_reducible assumption) | (with_reducible refine bel_set ?_ (by (try dsimp only); omega) _) | (with_reducible refine bel_alloc ?_ _) | (with_reducible refine bel_drewN ?_ _) | (with_reducible refine bel_drew ?_) | (with_reducible refine bel_trans ?_ (by assumption)))); done)
          clear hK K
          try simp only [Act.put, List.setIfInBounds_toArray, List.set_cons_zero, List.set_cons_succ]
          refine tk 8 (opN rfl) (by kernel_rfl) (by rfl) (by (intro w hSw; (try dsimp only at hSw); go_simp; first | done | with_reducible rfl)) (by assumption) ?_
          try simp only [Act.put, List.setIfInBounds_toArray, List.set_cons_zero, List.set_cons_succ]
          refine tk 9 (opN rfl) (by kernel_rfl) (by rfl) (by (intro w hSw; (try dsimp only at hSw); go_simp; first | done | with_reducible rfl)) (by assumption) ?_
          try simp only [Act.put, List.setIfInBounds_toArray, List.set_cons_zero, List.set_cons_succ]
          refine tk 10 (opN rfl) (by kernel_rfl) (by rfl) (by (intro w hSw; (try dsimp only at hSw); go_simp; first | done | with_reducible rfl)) (by assumption) ?_
          try simp only [Act.put, List.setIfInBounds_toArray, List.set_cons_zero, List.set_cons_succ]
          have hG : Blk w20 (wr1.heap.size) 31 #[.slice none 0 0, .slice none 0 0, .slice none 0 0, .int .i64 0, .int .i64 0] := by
            refine Blk.below (B := _) ?_ hb20 (by (try simp only [World.size_alloc, World.size_setCell, World.size_drew, size_drewN]); omega)
            refine Blk.below (B := _) ?_ hbr2 (by (try simp only [World.size_alloc, World.size_setCell, World.size_drew, size_drewN]); omega)
            first | exact Blk.new _ _ _ | exact Blk.drew (Blk.new _ _ _) | exact Blk.drewN (Blk.new _ _ _) _
          have kG0 : w20.cell? ⟨wr1.heap.size, 0, none⟩ = some (.slice none 0 0) := hG.cell 0
          have fG0 := hG.frozen 0
          have kG1 : w20.cell? ⟨wr1.heap.size, 1, none⟩ = some (.slice none 0 0) := hG.cell 1
          have fG1 := hG.frozen 1
          have kG2 : w20.cell? ⟨wr1.heap.size, 2, none⟩ = some (.slice none 0 0) := hG.cell 2
          have fG2 := hG.frozen 2
          have kG3 : w20.cell? ⟨wr1.heap.size, 3, none⟩ = some (.int .i64 0) := hG.cell 3
          have fG3 := hG.frozen 3
          have kG4 : w20.cell? ⟨wr1.heap.size, 4, none⟩ = some (.int .i64 0) := hG.cell 4
          have fG4 := hG.frozen 4
          have zG := hG.lt
          refine wpAnyH_ready (rs := [12]) (by kernel_rfl) (by simp) ?_
          refine (AllReadyH.cons (opN rfl) (fun K hK => ?_) AllReadyH.nil)
          go_simp
          refine hK.out _ _ ?_ (fun hHeld => ?_)
          · (try dsimp only)
            exact HSr.out _ (by (repeat' (first | (with_reducible exact Below.refl _ _) | (with_reducible assumption) | (with_reducible refine bel_set ?_ (by (try dsimp only); omega) _) | (with_reducible refine bel_alloc ?_ _) | (with_reducible refine bel_drewN ?_ _) | (with_reducible refine bel_drew ?_) | (with_reducible refine bel_trans ?_ (by assumption)))); done)
          clear hK K
          try simp only [Act.put, List.setIfInBounds_toArray, List.set_cons_zero, List.set_cons_succ]
          refine tk 13 (opN rfl) (by kernel_rfl) (by rfl) (by (intro w hSw; (try dsimp only at hSw); go_simp; first | done | with_reducible rfl)) (by assumption) ?_
          try simp only [Act.put, List.setIfInBounds_toArray, List.set_cons_zero, List.set_cons_succ]
          refine wpAnyH_done (by kernel_rfl) ?_ _
          refine NoPanic.normal ?_
          go_wp2_with fail
          go_meet
          refine ⟨_, Arq0, crq0, Arq1, crq1, Arq2, crq2, fp20, rfl, rfl, ?_, ?_, ?_, ?_⟩
          · exact (Blk.set_ (Blk.set_ (Blk.set_ (Blk.set_ (Blk.set_ hG 0 _) 1 _) 2 _) 3 _) 4 _)
          · exact Ty.ow_keep (by intro b hb'; have hb'' := (hfr20).2 b hb'; (try simp only [World.size_alloc, World.size_setCell, size_drewN, World.size_drew] at hb''); repeat (first | (with_reducible rfl) | (rw [Below.heap_setCell _ _ _ _ (by (try dsimp only); omega)]) | (rw [Below.heap_alloc _ _ _ (by (try simp only [World.size_alloc, World.size_setCell]); omega)]))) how20
          · exact hfr20.mono (by (try simp only [World.size_alloc, World.size_setCell, World.size_drew, size_drewN]); omega) (by (try simp only [World.size_alloc, World.size_setCell, World.size_drew, size_drewN]); omega)
          · exact (by (repeat' (first | (with_reducible exact Below.refl _ _) | (with_reducible assumption) | (with_reducible refine bel_set ?_ (by (try dsimp only); omega) _) | (with_reducible refine bel_alloc ?_ _) | (with_reducible refine bel_drewN ?_ _) | (with_reducible refine bel_drew ?_) | (with_reducible refine bel_trans ?_ (by assumption)))); done)
      · go_simp
        refine hK.out _ _ ?_ (fun hHeld => ?_)
        · (try dsimp only)
          exact HSr.out _ (by (repeat' (first | (with_reducible exact Below.refl _ _) | (with_reducible assumption) | (with_reducible refine bel_set ?_ (by (try dsimp only); omega) _) | (with_reducible refine bel_alloc ?_ _) | (with_reducible refine bel_drewN ?_ _) | (with_reducible refine bel_drew ?_) | (with_reducible refine bel_trans ?_ (by assumption)))); done)
        clear hK K
        try simp only [Act.put, List.setIfInBounds_toArray, List.set_cons_zero, List.set_cons_succ]
        refine wpAnyH_ready (rs := [3]) (by kernel_rfl) (by simp) ?_
        refine (AllReadyH.cons (opN rfl) (fun K hK => ?_) AllReadyH.nil)
        go_simp
        go_at_call 35
        refine (C_laws_toName _ _ x1 (Ty.rd_below (by (repeat' (first | (with_reducible exact Below.refl _ _) | (with_reducible assumption) | (with_reducible refine bel_set ?_ (by (try dsimp only); omega) _) | (with_reducible refine bel_alloc ?_ _) | (with_reducible refine bel_drewN ?_ _) | (with_reducible refine bel_drew ?_) | (with_reducible refine bel_trans ?_ (by assumption)))); done) h1) s1).mono ?_
        rintro e wr1 ⟨csr1, fpr1, rfl, howr1, hfrr1, hbr1⟩
        have hzr1 := hbr1.size
        try simp only [World.size_alloc, World.size_drew, size_drewN] at hzr1
        refine hK.out _ _ ?_ (fun hHeld => ?_)
        · (try dsimp only)
          exact HSr.out _ (by (repeat' (first | (with_reducible exact Below.refl _ _) | (with_reducible assumption) | (with_reducible refine bel_set ?_ (by (try dsimp only); omega) _) | (with_reducible refine bel_alloc ?_ _) | (with_reducible refine bel_drewN ?_ _) | (with_reducible refine bel_drew ?_) | (with_reducible refine bel_trans ?_ (by assumption)))); done)
        clear hK K
        try simp only [Act.put, List.setIfInBounds_toArray, List.set_cons_zero, List.set_cons_succ]
        refine wpAnyH_ready (rs := [5]) (by kernel_rfl) (by simp) ?_
        refine (AllReadyH.cons (opN rfl) (fun K hK => ?_) AllReadyH.nil)
        go_simp
        go_at_call 35
        refine (C_laws_toName _ _ x2 (Ty.rd_below (by (repeat' (first | (with_reducible exact Below.refl _ _) | (with_reducible assumption) | (with_reducible refine bel_set ?_ (by (try dsimp only); omega) _) | (with_reducible refine bel_alloc ?_ _) | (with_reducible refine bel_drewN ?_ _) | (with_reducible refine bel_drew ?_) | (with_reducible refine bel_trans ?_ (by assumption)))); done) h2) s2).mono ?_
        rintro e wr2 ⟨csr2, fpr2, rfl, howr2, hfrr2, hbr2⟩
        have hzr2 := hbr2.size
        try simp only [World.size_alloc, World.size_drew, size_drewN] at hzr2
        refine hK.out _ _ ?_ (fun hHeld => ?_)
        · (try dsimp only)
          exact HSr.out _ (by (repeat' (first | (with_reducible exact Below.refl _ _) | (with_reducible assumption) | (with_reducible refine bel_set ?_ (by (try dsimp only); omega) _) | (with_reducible refine bel_alloc ?_ _) | (with_reducible refine bel_drewN ?_ _) | (with_reducible refine bel_drew ?_) | (with_reducible refine bel_trans ?_ (by assumption)))); done)
        clear hK K
        try simp only [Act.put, List.setIfInBounds_toArray, List.set_cons_zero, List.set_cons_succ]
        refine wpAnyH_ready (rs := [7]) (by kernel_rfl) (by simp) ?_
        refine (AllReadyH.cons (opN rfl) (fun K hK => ?_) AllReadyH.nil)
        go_simp
        go_at_call 43
        refine (C_impl_IssueCertificate _ _ x0 _ x1 _ x2 a3 (Ty.rd_below (by (repeat' (first | (with_reducible exact Below.refl _ _) | (with_reducible assumption) | (with_reducible refine bel_set ?_ (by (try dsimp only); omega) _) | (with_reducible refine bel_alloc ?_ _) | (with_reducible refine bel_drewN ?_ _) | (with_reducible refine bel_drew ?_) | (with_reducible refine bel_trans ?_ (by assumption)))); done) (Ty.ow_rd howr0)) (Ty.rd_below (by (repeat' (first | (with_reducible exact Below.refl _ _) | (with_reducible assumption) | (with_reducible refine bel_set ?_ (by (try dsimp only); omega) _) | (with_reducible refine bel_alloc ?_ _) | (with_reducible refine bel_drewN ?_ _) | (with_reducible refine bel_drew ?_) | (with_reducible refine bel_trans ?_ (by assumption)))); done) (Ty.ow_rd howr1)) (Ty.rd_below (by (repeat' (first | (with_reducible exact Below.refl _ _) | (with_reducible assumption) | (with_reducible refine bel_set ?_ (by (try dsimp only); omega) _) | (with_reducible refine bel_alloc ?_ _) | (with_reducible refine bel_drewN ?_ _) | (with_reducible refine bel_drew ?_) | (with_reducible refine bel_trans ?_ (by assumption)))); done) (Ty.ow_rd howr2)) s0 s1 s2 i3).mono ?_
        rintro e w20 ⟨cs20_, fp20, rfl, how20, hfr20, hb20⟩
        obtain ⟨Arq0, crq0, Arq1, crq1, Arq2, crq2, rfl⟩ := ow_Data how20
        have hz20 := hb20.size
        try simp only [World.size_alloc, World.size_drew, size_drewN] at hz20
        refine hK.out _ _ ?_ (fun hHeld => ?_)
        · (try dsimp only)
          exact HSr.out _ (by (repeat' (first | (with_reducible exact Below.refl _ _) | (with_reducible assumption) | (with_reducible refine bel_set ?_ (by (try dsimp only); omega) _) | (with_reducible refine bel_alloc ?_ _) | (with_reducible refine bel_drewN ?_ _) | (with_reducible refine bel_drew ?_) | (with_reducible refine bel_trans ?_ (by assumption)))); done)
        clear hK K
        try simp only [Act.put, List.setIfInBounds_toArray, List.set_cons_zero, List.set_cons_succ]
        refine tk 8 (opN rfl) (by kernel_rfl) (by rfl) (by (intro w hSw; (try dsimp only at hSw); go_simp; first | done | with_reducible rfl)) (by assumption) ?_
        try simp only [Act.put, List.setIfInBounds_toArray, List.set_cons_zero, List.set_cons_succ]
        refine tk 9 (opN rfl) (by kernel_rfl) (by rfl) (by (intro w hSw; (try dsimp only at hSw); go_simp; first | done | with_reducible rfl)) (by assumption) ?_
        try simp only [Act.put, List.setIfInBounds_toArray, List.set_cons_zero, List.set_cons_succ]
        refine tk 10 (opN rfl) (by kernel_rfl) (by rfl) (by (intro w hSw; (try dsimp only at hSw); go_simp; first | done | with_reducible rfl)) (by assumption) ?_
        try simp only [Act.put, List.setIfInBounds_toArray, List.set_cons_zero, List.set_cons_succ]
        have hG : Blk w20 (wr0.heap.size) 31 #[.slice none 0 0, .slice none 0 0, .slice none 0 0, .int .i64 0, .int .i64 0] := by
          refine Blk.below (B := _) ?_ hb20 (by (try simp only [World.size_alloc, World.size_setCell, World.size_drew, size_drewN]); omega)
          refine Blk.below (B := _) ?_ hbr2 (by (try simp only [World.size_alloc, World.size_setCell, World.size_drew, size_drewN]); omega)
          refine Blk.below (B := _) ?_ hbr1 (by (try simp only [World.size_alloc, World.size_setCell, World.size_drew, size_drewN]); omega)
          first | exact Blk.new _ _ _ | exact Blk.drew (Blk.new _ _ _) | exact Blk.drewN (Blk.new _ _ _) _
        have kG0 : w20.cell? ⟨wr0.heap.size, 0, none⟩ = some (.slice none 0 0) := hG.cell 0
        have fG0 := hG.frozen 0
        have kG1 : w20.cell? ⟨wr0.heap.size, 1, none⟩ = some (.slice none 0 0) := hG.cell 1
        have fG1 := hG.frozen 1
        have kG2 : w20.cell? ⟨wr0.heap.size, 2, none⟩ = some (.slice none 0 0) := hG.cell 2
        have fG2 := hG.frozen 2
        have kG3 : w20.cell? ⟨wr0.heap.size, 3, none⟩ = some (.int .i64 0) := hG.cell 3
        have fG3 := hG.frozen 3
        have kG4 : w20.cell? ⟨wr0.heap.size, 4, none⟩ = some (.int .i64 0) := hG.cell 4
        have fG4 := hG.frozen 4
        have zG := hG.lt
        refine wpAnyH_ready (rs := [12]) (by kernel_rfl) (by simp) ?_
        refine (AllReadyH.cons (opN rfl) (fun K hK => ?_) AllReadyH.nil)
        go_simp
        refine hK.out _ _ ?_ (fun hHeld => ?_)
        · (try dsimp only)
          exact HSr.out _ (by (repeat' (first | (with_reducible exact Below.refl _ _) | (with_reducible assumption) | (with_reducible refine bel_set ?_ (by (try dsimp only); omega) _) | (with_reducible refine bel_alloc ?_ _) | (with_reducible refine bel_drewN ?_ _) | (with_reducible refine bel_drew ?_) | (with_reducible refine bel_trans ?_ (by assumption)))); done)
        clear hK K
        try simp only [Act.put, List.setIfInBounds_toArray, List.set_cons_zero, List.set_cons_succ]
        refine tk 13 (opN rfl) (by kernel_rfl) (by rfl) (by (intro w hSw; (try dsimp only at hSw); go_simp; first | done | with_reducible rfl)) (by assumption) ?_
        try simp only [Act.put, List.setIfInBounds_toArray, List.set_cons_zero, List.set_cons_succ]
        refine wpAnyH_done (by kernel_rfl) ?_ _
        refine NoPanic.normal ?_
        go_wp2_with fail
        go_meet
        refine ⟨_, Arq0, crq0, Arq1, crq1, Arq2, crq2, fp20, rfl, rfl, ?_, ?_, ?_, ?_⟩
        · exact (Blk.set_ (Blk.set_ (Blk.set_ (Blk.set_ (Blk.set_ hG 0 _) 1 _) 2 _) 3 _) 4 _)
        · exact Ty.ow_keep (by intro b hb'; have hb'' := (hfr20).2 b hb'; (try simp only [World.size_alloc, World.size_setCell, size_drewN, World.size_drew] at hb''); repeat (first | (with_reducible rfl) | (rw [Below.heap_setCell _ _ _ _ (by (try dsimp only); omega)]) | (rw [Below.heap_alloc _ _ _ (by (try simp only [World.size_alloc, World.size_setCell]); omega)]))) how20
        · exact hfr20.mono (by (try simp only [World.size_alloc, World.size_setCell, World.size_drew, size_drewN]); omega) (by (try simp only [World.size_alloc, World.size_setCell, World.size_drew, size_drewN]); omega)
        · exact (by (repeat' (first | (with_reducible exact Below.refl _ _) | (with_reducible assumption) | (with_reducible refine bel_set ?_ (by (try dsimp only); omega) _) | (with_reducible refine bel_alloc ?_ _) | (with_reducible refine bel_drewN ?_ _) | (with_reducible refine bel_drew ?_) | (with_reducible refine bel_trans ?_ (by assumption)))); done)
    · go_simp
      refine hK.out _ _ ?_ (fun hHeld => ?_)
      · (try dsimp only)
        exact HSr.out _ (by (repeat' (first | (with_reducible exact Below.refl _ _) | (with_reducible assumption) | (with_reducible refine bel_set ?_ (by (try dsimp only); omega) _) | (with_reducible refine bel_alloc ?_ _) | (with_reducible refine bel_drewN ?_ _) | (with_reducible refine bel_drew ?_) | (with_reducible refine bel_trans ?_ (by assumption)))); done)
      clear hK K
      try simp only [Act.put, List.setIfInBounds_toArray, List.set_cons_zero, List.set_cons_succ]
      refine wpAnyH_ready (rs := [1]) (by kernel_rfl) (by simp) ?_
      refine (AllReadyH.cons (opN rfl) (fun K hK => ?_) AllReadyH.nil)
      go_simp
      go_at_call 24
      refine (C_laws_toKeyS _ _ x0 (Ty.rd_below (by (repeat' (first | (with_reducible exact Below.refl _ _) | (with_reducible assumption) | (with_reducible refine bel_set ?_ (by (try dsimp only); omega) _) | (with_reducible refine bel_alloc ?_ _) | (with_reducible refine bel_drewN ?_ _) | (with_reducible refine bel_drew ?_) | (with_reducible refine bel_trans ?_ (by assumption)))); done) h0) s0).mono ?_
      rintro e wr0 ⟨Ar0, cr0, fpr0, rfl, howr0, hfrr0, hbr0⟩
      have hzr0 := hbr0.size
      try simp only [World.size_alloc, World.size_drew, size_drewN] at hzr0
      refine hK.out _ _ ?_ (fun hHeld => ?_)
      · (try dsimp only)
        exact HSr.out _ (by (repeat' (first | (with_reducible exact Below.refl _ _) | (with_reducible assumption) | (with_reducible refine bel_set ?_ (by (try dsimp only); omega) _) | (with_reducible refine bel_alloc ?_ _) | (with_reducible refine bel_drewN ?_ _) | (with_reducible refine bel_drew ?_) | (with_reducible refine bel_trans ?_ (by assumption)))); done)
      clear hK K
      try simp only [Act.put, List.setIfInBounds_toArray, List.set_cons_zero, List.set_cons_succ]
      refine wpAnyH_ready (rs := [3]) (by kernel_rfl) (by simp) ?_
      refine (AllReadyH.cons (opN rfl) (fun K hK => ?_) AllReadyH.nil)
      go_simp
      go_at_call 35
      refine (C_laws_toName _ _ x1 (Ty.rd_below (by (repeat' (first | (with_reducible exact Below.refl _ _) | (with_reducible assumption) | (with_reducible refine bel_set ?_ (by (try dsimp only); omega) _) | (with_reducible refine bel_alloc ?_ _) | (with_reducible refine bel_drewN ?_ _) | (with_reducible refine bel_drew ?_) | (with_reducible refine bel_trans ?_ (by assumption)))); done) h1) s1).mono ?_
      rintro e wr1 ⟨csr1, fpr1, rfl, howr1, hfrr1, hbr1⟩
      have hzr1 := hbr1.size
      try simp only [World.size_alloc, World.size_drew, size_drewN] at hzr1
      refine hK.out _ _ ?_ (fun hHeld => ?_)
      · (try dsimp only)
        exact HSr.out _ (by (repeat' (first | (with_reducible exact Below.refl _ _) | (with_reducible assumption) | (with_reducible refine bel_set ?_ (by (try dsimp only); omega) _) | (with_reducible refine bel_alloc ?_ _) | (with_reducible refine bel_drewN ?_ _) | (with_reducible refine bel_drew ?_) | (with_reducible refine bel_trans ?_ (by assumption)))); done)
      clear hK K
      try simp only [Act.put, List.setIfInBounds_toArray, List.set_cons_zero, List.set_cons_succ]
      refine wpAnyH_ready (rs := [5]) (by kernel_rfl) (by simp) ?_
      refine (AllReadyH.cons (opN rfl) (fun K hK => ?_) AllReadyH.nil)
      go_simp
      go_at_call 35
      refine (C_laws_toName _ _ x2 (Ty.rd_below (by (repeat' (first | (with_reducible exact Below.refl _ _) | (with_reducible assumption) | (with_reducible refine bel_set ?_ (by (try dsimp only); omega) _) | (with_reducible refine bel_alloc ?_ _) | (with_reducible refine bel_drewN ?_ _) | (with_reducible refine bel_drew ?_) | (with_reducible refine bel_trans ?_ (by assumption)))); done) h2) s2).mono ?_
      rintro e wr2 ⟨csr2, fpr2, rfl, howr2, hfrr2, hbr2⟩
      have hzr2 := hbr2.size
      try simp only [World.size_alloc, World.size_drew, size_drewN] at hzr2
      refine hK.out _ _ ?_ (fun hHeld => ?_)
      · (try dsimp only)
        exact HSr.out _ (by (repeat' (first | (with_reducible exact Below.refl _ _) | (with_reducible assumption) | (with_reducible refine bel_set ?_ (by (try dsimp only); omega) _) | (with_reducible refine bel_alloc ?_ _) | (with_reducible refine bel_drewN ?_ _) | (with_reducible refine bel_drew ?_) | (with_reducible refine bel_trans ?_ (by assumption)))); done)
      clear hK K
      try simp only [Act.put, List.setIfInBounds_toArray, List.set_cons_zero, List.set_cons_succ]
      refine wpAnyH_ready (rs := [7]) (by kernel_rfl) (by simp) ?_
      refine (AllReadyH.cons (opN rfl) (fun K hK => ?_) AllReadyH.nil)
      go_simp
      go_at_call 43
      refine (C_impl_IssueCertificate _ _ x0 _ x1 _ x2 a3 (Ty.rd_below (by (repeat' (first | (with_reducible exact Below.refl _ _) | (with_reducible assumption) | (with_reducible refine bel_set ?_ (by (try dsimp only); omega) _) | (with_reducible refine bel_alloc ?_ _) | (with_reducible refine bel_drewN ?_ _) | (with_reducible refine bel_drew ?_) | (with_reducible refine bel_trans ?_ (by assumption)))); done) (Ty.ow_rd howr0)) (Ty.rd_below (by (repeat' (first | (with_reducible exact Below.refl _ _) | (with_reducible assumption) | (with_reducible refine bel_set ?_ (by (try dsimp only); omega) _) | (with_reducible refine bel_alloc ?_ _) | (with_reducible refine bel_drewN ?_ _) | (with_reducible refine bel_drew ?_) | (with_reducible refine bel_trans ?_ (by assumption)))); done) (Ty.ow_rd howr1)) (Ty.rd_below (by (repeat' (first | (with_reducible exact Below.refl _ _) | (with_reducible assumption) | (with_reducible refine bel_set ?_ (by (try dsimp only); omega) _) | (with_reducible refine bel_alloc ?_ _) | (with_reducible refine bel_drewN ?_ _) | (with_reducible refine bel_drew ?_) | (with_reducible refine bel_trans ?_ (by assumption)))); done) (Ty.ow_rd howr2)) s0 s1 s2 i3).mono ?_
      rintro e w20 ⟨cs20_, fp20, rfl, how20, hfr20, hb20⟩
      obtain ⟨Arq0, crq0, Arq1, crq1, Arq2, crq2, rfl⟩ := ow_Data how20
      have hz20 := hb20.size
      try simp only [World.size_alloc, World.size_drew, size_drewN] at hz20
      refine hK.out _ _ ?_ (fun hHeld => ?_)
      · (try dsimp only)
        exact HSr.out _ (by (repeat' (first | (with_reducible exact Below.refl _ _) | (with_reducible assumption) | (with_reducible refine bel_set ?_ (by (try dsimp only); omega) _) | (with_reducible refine bel_alloc ?_ _) | (with_reducible refine bel_drewN ?_ _) | (with_reducible refine bel_drew ?_) | (with_reducible refine bel_trans ?_ (by assumption)))); done)
      clear hK K
      try simp only [Act.put, List.setIfInBounds_toArray, List.set_cons_zero, List.set_cons_succ]
      refine tk 8 (opN rfl) (by kernel_rfl) (by rfl) (by (intro w hSw; (try dsimp only at hSw); go_simp; first | done | with_reducible rfl)) (by assumption) ?_
      try simp only [Act.put, List.setIfInBounds_toArray, List.set_cons_zero, List.set_cons_succ]
      refine tk 9 (opN rfl) (by kernel_rfl) (by rfl) (by (intro w hSw; (try dsimp only at hSw); go_simp; first | done | with_reducible rfl)) (by assumption) ?_
      try simp only [Act.put, List.setIfInBounds_toArray, List.set_cons_zero, List.set_cons_succ]
      refine tk 10 (opN rfl) (by kernel_rfl) (by rfl) (by (intro w hSw; (try dsimp only at hSw); go_simp; first | done | with_reducible rfl)) (by assumption) ?_
      try simp only [Act.put, List.setIfInBounds_toArray, List.set_cons_zero, List.set_cons_succ]
      have hG : Blk w20 (w19.heap.size) 31 #[.slice none 0 0, .slice none 0 0, .slice none 0 0, .int .i64 0, .int .i64 0] := by
        refine Blk.below (B := _) ?_ hb20 (by (try simp only [World.size_alloc, World.size_setCell, World.size_drew, size_drewN]); omega)
        refine Blk.below (B := _) ?_ hbr2 (by (try simp only [World.size_alloc, World.size_setCell, World.size_drew, size_drewN]); omega)
        refine Blk.below (B := _) ?_ hbr1 (by (try simp only [World.size_alloc, World.size_setCell, World.size_drew, size_drewN]); omega)
        refine Blk.below (B := _) ?_ hbr0 (by (try simp only [World.size_alloc, World.size_setCell, World.size_drew, size_drewN]); omega)
        first | exact Blk.new _ _ _ | exact Blk.drew (Blk.new _ _ _) | exact Blk.drewN (Blk.new _ _ _) _
      have kG0 : w20.cell? ⟨w19.heap.size, 0, none⟩ = some (.slice none 0 0) := hG.cell 0
      have fG0 := hG.frozen 0
      have kG1 : w20.cell? ⟨w19.heap.size, 1, none⟩ = some (.slice none 0 0) := hG.cell 1
      have fG1 := hG.frozen 1
      have kG2 : w20.cell? ⟨w19.heap.size, 2, none⟩ = some (.slice none 0 0) := hG.cell 2
      have fG2 := hG.frozen 2
      have kG3 : w20.cell? ⟨w19.heap.size, 3, none⟩ = some (.int .i64 0) := hG.cell 3
      have fG3 := hG.frozen 3
      have kG4 : w20.cell? ⟨w19.heap.size, 4, none⟩ = some (.int .i64 0) := hG.cell 4
      have fG4 := hG.frozen 4
      have zG := hG.lt
      refine wpAnyH_ready (rs := [12]) (by kernel_rfl) (by simp) ?_
      refine (AllReadyH.cons (opN rfl) (fun K hK => ?_) AllReadyH.nil)
      go_simp
      refine hK.out _ _ ?_ (fun hHeld => ?_)
      · (try dsimp only)
        exact HSr.out _ (by (repeat' (first | (with_reducible exact Below.refl _ _) | (with_reducible assumption) | (with_reducible refine bel_set ?_ (by (try dsimp only); omega) _) | (with_reducible refine bel_alloc ?_ _) | (with_reducible refine bel_drewN ?_ _) | (with_reducible refine bel_drew ?_) | (with_reducible refine bel_trans ?_ (by assumption)))); done)
      clear hK K
      try simp only [Act.put, List.setIfInBounds_toArray, List.set_cons_zero, List.set_cons_succ]
      refine tk 13 (opN rfl) (by kernel_rfl) (by rfl) (by (intro w hSw; (try dsimp only at hSw); go_simp; first | done | with_reducible rfl)) (by assumption) ?_
      try simp only [Act.put, List.setIfInBounds_toArray, List.set_cons_zero, List.set_cons_succ]
      refine wpAnyH_done (by kernel_rfl) ?_ _
      refine NoPanic.normal ?_
      go_wp2_with fail
      go_meet
      refine ⟨_, Arq0, crq0, Arq1, crq1, Arq2, crq2, fp20, rfl, rfl, ?_, ?_, ?_, ?_⟩
      · exact (Blk.set_ (Blk.set_ (Blk.set_ (Blk.set_ (Blk.set_ hG 0 _) 1 _) 2 _) 3 _) 4 _)
      · exact Ty.ow_keep (by intro b hb'; have hb'' := (hfr20).2 b hb'; (try simp only [World.size_alloc, World.size_setCell, size_drewN, World.size_drew] at hb''); repeat (first | (with_reducible rfl) | (rw [Below.heap_setCell _ _ _ _ (by (try dsimp only); omega)]) | (rw [Below.heap_alloc _ _ _ (by (try simp only [World.size_alloc, World.size_setCell]); omega)]))) how20
      · exact hfr20.mono (by (try simp only [World.size_alloc, World.size_setCell, World.size_drew, size_drewN]); omega) (by (try simp only [World.size_alloc, World.size_setCell, World.size_drew, size_drewN]); omega)
      · exact (by (repeat' (first | (with_reducible exact Below.refl _ _) | (with_reducible assumption) | (with_reducible refine bel_set ?_ (by (try dsimp only); omega) _) | (with_reducible refine bel_alloc ?_ _) | (with_reducible refine bel_drewN ?_ _) | (with_reducible refine bel_drew ?_) | (with_reducible refine bel_trans ?_ (by assumption)))); done)
  obtain ⟨w20, hwc⟩ : ∃ w20, w20 = wc := ⟨_, rfl⟩
  subst hwc
  obtain ⟨gH0, Arq0, crq0, Arq1, crq1, Arq2, crq2, fp20, rfl, rfl, hBk20, how20, hfr20, st20⟩ := hcut
  have zz20 : w19.heap.size ≤ w20.heap.size := st20.size
  have vw_20 : Below w.heap.size w w20 := bel_trans vw_19 st20
  have vW0_20 : Below w18.heap.size w18 w20 := bel_trans vW0_19 st20
  have vM0_20 : Below w18.heap.size w18 w20 := bel_trans vM0_19 st20
  have za1_20 : w.heap.size < w20.heap.size := by omega
  have ea1_0_20 : w20.cell? ⟨w.heap.size, 0, none⟩ = some (.slice A10 (List.length x1) c10) := (st20.cell za1_19).trans ea1_0_19
  have za2_20 : w.heap.size + 1 < w20.heap.size := by omega
  have ea2_0_20 : w20.cell? ⟨w.heap.size + 1, 0, none⟩ = some (.slice A20 (List.length x2) c20) := (st20.cell za2_19).trans ea2_0_19
  have zw0_20 : gW0 < w20.heap.size := by omega
  have ew0_0_20 : w20.cell? ⟨gW0, 0, none⟩ = some (.slice Apq0 (List.length (f0_IssueCertificate x0 x1 x2 a3).1) cpq0) := (st20.cell zw0_19).trans ew0_0_19
  have ew0_1_20 : w20.cell? ⟨gW0, 1, none⟩ = some (.slice Apq1 (List.length (f0_IssueCertificate x0 x1 x2 a3).2.1) cpq1) := (st20.cell zw0_19).trans ew0_1_19
  have ew0_2_20 : w20.cell? ⟨gW0, 2, none⟩ = some (.slice Apq2 (List.length (f0_IssueCertificate x0 x1 x2 a3).2.2.1) cpq2) := (st20.cell zw0_19).trans ew0_2_19
  have ew0_3_20 : w20.cell? ⟨gW0, 3, none⟩ = some (.int .i64 (f0_IssueCertificate x0 x1 x2 a3).2.2.2.1) := (st20.cell zw0_19).trans ew0_3_19
  have ew0_4_20 : w20.cell? ⟨gW0, 4, none⟩ = some (.int .i64 (f0_IssueCertificate x0 x1 x2 a3).2.2.2.2) := (st20.cell zw0_19).trans ew0_4_19
  have zx1_20 : w6.heap.size < w20.heap.size := by omega
  have ex1_0_20 : w20.cell? ⟨w6.heap.size, 0, none⟩ = some (.slice A6_0 (List.length x1) c6_0) := (st20.cell zx1_19).trans ex1_0_19
  have zx2_20 : w7.heap.size < w20.heap.size := by omega
  have ex2_0_20 : w20.cell? ⟨w7.heap.size, 0, none⟩ = some (.slice A7_0 (List.length x2) c7_0) := (st20.cell zx2_19).trans ex2_0_19
  have zg0_20 : w8.heap.size < w20.heap.size := by omega
  have eg0_0_20 : w20.cell? ⟨w8.heap.size, 0, none⟩ = some (.slice A8_0 (List.length (f0_IssueCertificate x0 x1 x2 a3).1) c8_0) := (st20.cell zg0_19).trans eg0_0_19
  have eg0_1_20 : w20.cell? ⟨w8.heap.size, 1, none⟩ = some (.slice A8_1 (List.length (f0_IssueCertificate x0 x1 x2 a3).2.1) c8_1) := (st20.cell zg0_19).trans eg0_1_19
  have eg0_2_20 : w20.cell? ⟨w8.heap.size, 2, none⟩ = some (.slice A8_2 (List.length (f0_IssueCertificate x0 x1 x2 a3).2.2.1) c8_2) := (st20.cell zg0_19).trans eg0_2_19
  have eg0_3_20 : w20.cell? ⟨w8.heap.size, 3, none⟩ = some (.int .i64 (f0_IssueCertificate x0 x1 x2 a3).2.2.2.1) := (st20.cell zg0_19).trans eg0_3_19
  have eg0_4_20 : w20.cell? ⟨w8.heap.size, 4, none⟩ = some (.int .i64 (f0_IssueCertificate x0 x1 x2 a3).2.2.2.2) := (st20.cell zg0_19).trans eg0_4_19
  clear ea1_0_19 ea2_0_19 ew0_0_19 ew0_1_19 ew0_2_19 ew0_3_19 ew0_4_19 ex1_0_19 ex2_0_19 eg0_0_19 eg0_1_19 eg0_2_19 eg0_3_19 eg0_4_19
  have frH0 : FrI (w19.heap.size + 0) w20.heap.size fp20 := hfr20.mono (by (try simp only [World.size_alloc]); omega) (Nat.le_refl _)
  have vH0_20 : Below w20.heap.size w20 w20 := Below.refl _ _
  have zh0_20 : gH0 < w20.heap.size := hBk20.lt
  have eh0_0_20 : w20.cell? ⟨gH0, 0, none⟩ = some (.slice Arq0 (List.length (f0_IssueCertificate x0 x1 x2 a3).1) crq0) := hBk20.cell 0
  have eh0_1_20 : w20.cell? ⟨gH0, 1, none⟩ = some (.slice Arq1 (List.length (f0_IssueCertificate x0 x1 x2 a3).2.1) crq1) := hBk20.cell 1
  have eh0_2_20 : w20.cell? ⟨gH0, 2, none⟩ = some (.slice Arq2 (List.length (f0_IssueCertificate x0 x1 x2 a3).2.2.1) crq2) := hBk20.cell 2
  have eh0_3_20 : w20.cell? ⟨gH0, 3, none⟩ = some (.int .i64 (f0_IssueCertificate x0 x1 x2 a3).2.2.2.1) := hBk20.cell 3
  have eh0_4_20 : w20.cell? ⟨gH0, 4, none⟩ = some (.int .i64 (f0_IssueCertificate x0 x1 x2 a3).2.2.2.2) := hBk20.cell 4
  go_wp2_with fail
  refine (C_laws_eqData _ _ _ (f0_IssueCertificate x0 x1 x2 a3) (Ty.ow_rd (Ty.ow_bel (by repeat' (first | (with_reducible exact Below.refl _ _) | (with_reducible assumption) | (with_reducible refine bel_set ?_ (by (try dsimp only); omega) _) | (with_reducible refine bel_alloc ?_ _) | (with_reducible refine bel_drewN ?_ _) | (with_reducible refine bel_drew ?_))) how20)) (Ty.ow_rd (Ty.ow_bel (by repeat' (first | (with_reducible exact Below.refl _ _) | (with_reducible assumption) | (with_reducible refine bel_set ?_ (by (try dsimp only); omega) _) | (with_reducible refine bel_alloc ?_ _) | (with_reducible refine bel_drewN ?_ _) | (with_reducible refine bel_drew ?_))) howW0_18))).mono ?_
  rintro e w21 ⟨rfl, hb21⟩
  have st21 : Below w20.heap.size w20 w21 := bel_trans (by repeat' (first | (with_reducible exact Below.refl _ _) | (with_reducible assumption) | (with_reducible refine bel_set ?_ (by (try dsimp only); omega) _) | (with_reducible refine bel_alloc ?_ _) | (with_reducible refine bel_drewN ?_ _) | (with_reducible refine bel_drew ?_))) hb21
  have zz21 : w20.heap.size + 0 ≤ w21.heap.size := by have := hb21.size; (try simp only [World.size_alloc] at this); omega
  have vw_21 : Below w.heap.size w w21 := bel_trans vw_20 st21
  have vW0_21 : Below w18.heap.size w18 w21 := bel_trans vW0_20 st21
  have vM0_21 : Below w18.heap.size w18 w21 := bel_trans vM0_20 st21
  have vH0_21 : Below w20.heap.size w20 w21 := st21
  have za1_21 : w.heap.size < w21.heap.size := by omega
  have ea1_0_21 : w21.cell? ⟨w.heap.size, 0, none⟩ = some (.slice A10 (List.length x1) c10) := (hb21.cell (by (try simp only [World.size_alloc]); (try dsimp only); omega)).trans ea1_0_20
  have za2_21 : w.heap.size + 1 < w21.heap.size := by omega
  have ea2_0_21 : w21.cell? ⟨w.heap.size + 1, 0, none⟩ = some (.slice A20 (List.length x2) c20) := (hb21.cell (by (try simp only [World.size_alloc]); (try dsimp only); omega)).trans ea2_0_20
  have zw0_21 : gW0 < w21.heap.size := by omega
  have ew0_0_21 : w21.cell? ⟨gW0, 0, none⟩ = some (.slice Apq0 (List.length (f0_IssueCertificate x0 x1 x2 a3).1) cpq0) := (hb21.cell (by (try simp only [World.size_alloc]); (try dsimp only); omega)).trans ew0_0_20
  have ew0_1_21 : w21.cell? ⟨gW0, 1, none⟩ = some (.slice Apq1 (List.length (f0_IssueCertificate x0 x1 x2 a3).2.1) cpq1) := (hb21.cell (by (try simp only [World.size_alloc]); (try dsimp only); omega)).trans ew0_1_20
  have ew0_2_21 : w21.cell? ⟨gW0, 2, none⟩ = some (.slice Apq2 (List.length (f0_IssueCertificate x0 x1 x2 a3).2.2.1) cpq2) := (hb21.cell (by (try simp only [World.size_alloc]); (try dsimp only); omega)).trans ew0_2_20
  have ew0_3_21 : w21.cell? ⟨gW0, 3, none⟩ = some (.int .i64 (f0_IssueCertificate x0 x1 x2 a3).2.2.2.1) := (hb21.cell (by (try simp only [World.size_alloc]); (try dsimp only); omega)).trans ew0_3_20
  have ew0_4_21 : w21.cell? ⟨gW0, 4, none⟩ = some (.int .i64 (f0_IssueCertificate x0 x1 x2 a3).2.2.2.2) := (hb21.cell (by (try simp only [World.size_alloc]); (try dsimp only); omega)).trans ew0_4_20
  have zx1_21 : w6.heap.size < w21.heap.size := by omega
  have ex1_0_21 : w21.cell? ⟨w6.heap.size, 0, none⟩ = some (.slice A6_0 (List.length x1) c6_0) := (hb21.cell (by (try simp only [World.size_alloc]); (try dsimp only); omega)).trans ex1_0_20
  have zx2_21 : w7.heap.size < w21.heap.size := by omega
  have ex2_0_21 : w21.cell? ⟨w7.heap.size, 0, none⟩ = some (.slice A7_0 (List.length x2) c7_0) := (hb21.cell (by (try simp only [World.size_alloc]); (try dsimp only); omega)).trans ex2_0_20
  have zg0_21 : w8.heap.size < w21.heap.size := by omega
  have eg0_0_21 : w21.cell? ⟨w8.heap.size, 0, none⟩ = some (.slice A8_0 (List.length (f0_IssueCertificate x0 x1 x2 a3).1) c8_0) := (hb21.cell (by (try simp only [World.size_alloc]); (try dsimp only); omega)).trans eg0_0_20
  have eg0_1_21 : w21.cell? ⟨w8.heap.size, 1, none⟩ = some (.slice A8_1 (List.length (f0_IssueCertificate x0 x1 x2 a3).2.1) c8_1) := (hb21.cell (by (try simp only [World.size_alloc]); (try dsimp only); omega)).trans eg0_1_20
  have eg0_2_21 : w21.cell? ⟨w8.heap.size, 2, none⟩ = some (.slice A8_2 (List.length (f0_IssueCertificate x0 x1 x2 a3).2.2.1) c8_2) := (hb21.cell (by (try simp only [World.size_alloc]); (try dsimp only); omega)).trans eg0_2_20
  have eg0_3_21 : w21.cell? ⟨w8.heap.size, 3, none⟩ = some (.int .i64 (f0_IssueCertificate x0 x1 x2 a3).2.2.2.1) := (hb21.cell (by (try simp only [World.size_alloc]); (try dsimp only); omega)).trans eg0_3_20
  have eg0_4_21 : w21.cell? ⟨w8.heap.size, 4, none⟩ = some (.int .i64 (f0_IssueCertificate x0 x1 x2 a3).2.2.2.2) := (hb21.cell (by (try simp only [World.size_alloc]); (try dsimp only); omega)).trans eg0_4_20
  have zh0_21 : gH0 < w21.heap.size := by omega
  have eh0_0_21 : w21.cell? ⟨gH0, 0, none⟩ = some (.slice Arq0 (List.length (f0_IssueCertificate x0 x1 x2 a3).1) crq0) := (hb21.cell (by (try simp only [World.size_alloc]); (try dsimp only); omega)).trans eh0_0_20
  have eh0_1_21 : w21.cell? ⟨gH0, 1, none⟩ = some (.slice Arq1 (List.length (f0_IssueCertificate x0 x1 x2 a3).2.1) crq1) := (hb21.cell (by (try simp only [World.size_alloc]); (try dsimp only); omega)).trans eh0_1_20
  have eh0_2_21 : w21.cell? ⟨gH0, 2, none⟩ = some (.slice Arq2 (List.length (f0_IssueCertificate x0 x1 x2 a3).2.2.1) crq2) := (hb21.cell (by (try simp only [World.size_alloc]); (try dsimp only); omega)).trans eh0_2_20
  have eh0_3_21 : w21.cell? ⟨gH0, 3, none⟩ = some (.int .i64 (f0_IssueCertificate x0 x1 x2 a3).2.2.2.1) := (hb21.cell (by (try simp only [World.size_alloc]); (try dsimp only); omega)).trans eh0_3_20
  have eh0_4_21 : w21.cell? ⟨gH0, 4, none⟩ = some (.int .i64 (f0_IssueCertificate x0 x1 x2 a3).2.2.2.2) := (hb21.cell (by (try simp only [World.size_alloc]); (try dsimp only); omega)).trans eh0_4_20
  clear ea1_0_20 ea2_0_20 ew0_0_20 ew0_1_20 ew0_2_20 ew0_3_20 ew0_4_20 ex1_0_20 ex2_0_20 eg0_0_20 eg0_1_20 eg0_2_20 eg0_3_20 eg0_4_20 eh0_0_20 eh0_1_20 eh0_2_20 eh0_3_20 eh0_4_20
  go_wp2_with fail
  refine (C_laws_heldData _ _ (f0_IssueCertificate x0 x1 x2 a3) 1 (Ty.ow_rd (Ty.ow_bel (by repeat' (first | (with_reducible exact Below.refl _ _) | (with_reducible assumption) | (with_reducible refine bel_set ?_ (by (try dsimp only); omega) _) | (with_reducible refine bel_alloc ?_ _) | (with_reducible refine bel_drewN ?_ _) | (with_reducible refine bel_drew ?_))) hm18)) (by omega) (by omega)).mono ?_
  rintro e w22 ⟨rfl, hb22⟩
  have st22 : Below w21.heap.size w21 w22 := bel_trans (by repeat' (first | (with_reducible exact Below.refl _ _) | (with_reducible assumption) | (with_reducible refine bel_set ?_ (by (try dsimp only); omega) _) | (with_reducible refine bel_alloc ?_ _) | (with_reducible refine bel_drewN ?_ _) | (with_reducible refine bel_drew ?_))) hb22
  have zz22 : w21.heap.size + 0 ≤ w22.heap.size := by have := hb22.size; (try simp only [World.size_alloc] at this); omega
  have vw_22 : Below w.heap.size w w22 := bel_trans vw_21 st22
  have vW0_22 : Below w18.heap.size w18 w22 := bel_trans vW0_21 st22
  have vM0_22 : Below w18.heap.size w18 w22 := bel_trans vM0_21 st22
  have vH0_22 : Below w20.heap.size w20 w22 := bel_trans vH0_21 st22
  have za1_22 : w.heap.size < w22.heap.size := by omega
  have ea1_0_22 : w22.cell? ⟨w.heap.size, 0, none⟩ = some (.slice A10 (List.length x1) c10) := (hb22.cell (by (try simp only [World.size_alloc]); (try dsimp only); omega)).trans ea1_0_21
  have za2_22 : w.heap.size + 1 < w22.heap.size := by omega
  have ea2_0_22 : w22.cell? ⟨w.heap.size + 1, 0, none⟩ = some (.slice A20 (List.length x2) c20) := (hb22.cell (by (try simp only [World.size_alloc]); (try dsimp only); omega)).trans ea2_0_21
  have zw0_22 : gW0 < w22.heap.size := by omega
  have ew0_0_22 : w22.cell? ⟨gW0, 0, none⟩ = some (.slice Apq0 (List.length (f0_IssueCertificate x0 x1 x2 a3).1) cpq0) := (hb22.cell (by (try simp only [World.size_alloc]); (try dsimp only); omega)).trans ew0_0_21
  have ew0_1_22 : w22.cell? ⟨gW0, 1, none⟩ = some (.slice Apq1 (List.length (f0_IssueCertificate x0 x1 x2 a3).2.1) cpq1) := (hb22.cell (by (try simp only [World.size_alloc]); (try dsimp only); omega)).trans ew0_1_21
  have ew0_2_22 : w22.cell? ⟨gW0, 2, none⟩ = some (.slice Apq2 (List.length (f0_IssueCertificate x0 x1 x2 a3).2.2.1) cpq2) := (hb22.cell (by (try simp only [World.size_alloc]); (try dsimp only); omega)).trans ew0_2_21
  have ew0_3_22 : w22.cell? ⟨gW0, 3, none⟩ = some (.int .i64 (f0_IssueCertificate x0 x1 x2 a3).2.2.2.1) := (hb22.cell (by (try simp only [World.size_alloc]); (try dsimp only); omega)).trans ew0_3_21
  have ew0_4_22 : w22.cell? ⟨gW0, 4, none⟩ = some (.int .i64 (f0_IssueCertificate x0 x1 x2 a3).2.2.2.2) := (hb22.cell (by (try simp only [World.size_alloc]); (try dsimp only); omega)).trans ew0_4_21
  have zx1_22 : w6.heap.size < w22.heap.size := by omega
  have ex1_0_22 : w22.cell? ⟨w6.heap.size, 0, none⟩ = some (.slice A6_0 (List.length x1) c6_0) := (hb22.cell (by (try simp only [World.size_alloc]); (try dsimp only); omega)).trans ex1_0_21
  have zx2_22 : w7.heap.size < w22.heap.size := by omega
  have ex2_0_22 : w22.cell? ⟨w7.heap.size, 0, none⟩ = some (.slice A7_0 (List.length x2) c7_0) := (hb22.cell (by (try simp only [World.size_alloc]); (try dsimp only); omega)).trans ex2_0_21
  have zg0_22 : w8.heap.size < w22.heap.size := by omega
  have eg0_0_22 : w22.cell? ⟨w8.heap.size, 0, none⟩ = some (.slice A8_0 (List.length (f0_IssueCertificate x0 x1 x2 a3).1) c8_0) := (hb22.cell (by (try simp only [World.size_alloc]); (try dsimp only); omega)).trans eg0_0_21
  have eg0_1_22 : w22.cell? ⟨w8.heap.size, 1, none⟩ = some (.slice A8_1 (List.length (f0_IssueCertificate x0 x1 x2 a3).2.1) c8_1) := (hb22.cell (by (try simp only [World.size_alloc]); (try dsimp only); omega)).trans eg0_1_21
  have eg0_2_22 : w22.cell? ⟨w8.heap.size, 2, none⟩ = some (.slice A8_2 (List.length (f0_IssueCertificate x0 x1 x2 a3).2.2.1) c8_2) := (hb22.cell (by (try simp only [World.size_alloc]); (try dsimp only); omega)).trans eg0_2_21
  have eg0_3_22 : w22.cell? ⟨w8.heap.size, 3, none⟩ = some (.int .i64 (f0_IssueCertificate x0 x1 x2 a3).2.2.2.1) := (hb22.cell (by (try simp only [World.size_alloc]); (try dsimp only); omega)).trans eg0_3_21
  have eg0_4_22 : w22.cell? ⟨w8.heap.size, 4, none⟩ = some (.int .i64 (f0_IssueCertificate x0 x1 x2 a3).2.2.2.2) := (hb22.cell (by (try simp only [World.size_alloc]); (try dsimp only); omega)).trans eg0_4_21
  have zh0_22 : gH0 < w22.heap.size := by omega
  have eh0_0_22 : w22.cell? ⟨gH0, 0, none⟩ = some (.slice Arq0 (List.length (f0_IssueCertificate x0 x1 x2 a3).1) crq0) := (hb22.cell (by (try simp only [World.size_alloc]); (try dsimp only); omega)).trans eh0_0_21
  have eh0_1_22 : w22.cell? ⟨gH0, 1, none⟩ = some (.slice Arq1 (List.length (f0_IssueCertificate x0 x1 x2 a3).2.1) crq1) := (hb22.cell (by (try simp only [World.size_alloc]); (try dsimp only); omega)).trans eh0_1_21
  have eh0_2_22 : w22.cell? ⟨gH0, 2, none⟩ = some (.slice Arq2 (List.length (f0_IssueCertificate x0 x1 x2 a3).2.2.1) crq2) := (hb22.cell (by (try simp only [World.size_alloc]); (try dsimp only); omega)).trans eh0_2_21
  have eh0_3_22 : w22.cell? ⟨gH0, 3, none⟩ = some (.int .i64 (f0_IssueCertificate x0 x1 x2 a3).2.2.2.1) := (hb22.cell (by (try simp only [World.size_alloc]); (try dsimp only); omega)).trans eh0_3_21
  have eh0_4_22 : w22.cell? ⟨gH0, 4, none⟩ = some (.int .i64 (f0_IssueCertificate x0 x1 x2 a3).2.2.2.2) := (hb22.cell (by (try simp only [World.size_alloc]); (try dsimp only); omega)).trans eh0_4_21
  clear ea1_0_21 ea2_0_21 ew0_0_21 ew0_1_21 ew0_2_21 ew0_3_21 ew0_4_21 ex1_0_21 ex2_0_21 eg0_0_21 eg0_1_21 eg0_2_21 eg0_3_21 eg0_4_21 eh0_0_21 eh0_1_21 eh0_2_21 eh0_3_21 eh0_4_21
  go_wp2_with fail
  go_ret
  exact ⟨rfl, vw_22⟩
end Go.Proofs.Ytamodpeeocmneaa
