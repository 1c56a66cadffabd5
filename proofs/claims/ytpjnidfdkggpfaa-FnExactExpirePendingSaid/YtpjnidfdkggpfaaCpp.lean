/- Pending interests are copied. Printed by gen41.py. -/
import Derived.Test.YtpjnidfdkggpfaaDlf
import Derived.Test.YtpjnidfdkggpfaaCpy
import Derived.Test.YtpjnidfdkggpfaaNb
namespace Go.Proofs.Ytpjnidfdkggpfaa
open Go.RowKit
set_option linter.unusedVariables false
set_option linter.unusedSimpArgs false

theorem FrI.app2 {lo m hi : Nat} {f g : List Nat} (h1 : FrI m hi f) (h2 : FrI lo m g) (l1 : lo ≤ m) (l2 : m ≤ hi) : FrI lo hi (f ++ g) := by
  refine ⟨List.nodup_append.2 ⟨h1.1, h2.1, fun a ha b hb e => ?_⟩, fun b hb => ?_⟩
  · have := h1.2 a ha; have := h2.2 b hb; omega
  · rcases List.mem_append.1 hb with hb | hb
    · have := h1.2 b hb; omega
    · have := h2.2 b hb; omega
theorem ow_PImk {w : World} {x : Ty.D tPendingInterest} {A0 A1 : Option Addr} {c0 c1 : Nat} {f0 f1 : List Nat} (h0 : (Ty.sl .str).ow w [.slice A0 (List.length x.1) c0] x.1 f0) (h1 : (Ty.sl tRequester).ow w [.slice A1 (List.length x.2.1) c1] x.2.1 f1) (b : -9223372036854775808 ≤ x.2.2 ∧ x.2.2 ≤ 9223372036854775807) :
    tPendingInterest.ow w [.slice A0 (List.length x.1) c0, .slice A1 (List.length x.2.1) c1, .int .i64 x.2.2] x (f0 ++ (f1 ++ [])) := ⟨[_], [_, _], f0, f1 ++ [], rfl, rfl, h0, ⟨[_], [_], f1, [], rfl, rfl, h1, ⟨rfl, b⟩, rfl⟩⟩
theorem pi_bulk {x : Ty.D tPendingInterest} {n : Nat} (s : Ty.bulk tPendingInterest x ≤ n) : Ty.bulk (.sl .str) x.1 ≤ n ∧ Ty.bulk (.sl tRequester) x.2.1 ≤ n := by
  have h1 : Ty.bulk (.sl .str) x.1 + (Ty.bulk (.sl tRequester) x.2.1 + 0) ≤ n := s
  exact ⟨by omega, by omega⟩
set_option maxRecDepth 100000 in
set_option maxHeartbeats 1000000 in
theorem C_slices_Clone_Req (w : World) (v : Value) (x : List (Ty.D tRequester)) (h : (Ty.sl tRequester).rd w [v] x) (hx : x.length ≤ 1099511627776) : Calls Try.prog 42 #[v] w (RetDRow tRequester w 58 x) := by
  obtain ⟨A, c, rfl, hc, hm, hn⟩ := Ty.rd_sl h
  have q22 : ∀ (w : World) (a : Option Addr) (n c n' c' : Nat), (binOp .eql 54 (.slice a n c) (.slice none n' c')).run Try.prog w = .ok (.bool a.isNone) w := fun w a n c n' c' => Lib.run_eql_slice_nil w _ _ a n c n' c' Try.underlying54
  cases A with
  | none =>
    obtain ⟨rfl, rfl⟩ := Ty.rd_nil h
    show Calls Try.prog 42 #[.slice none 0 0] w _
    clear h hx hc hm hn
    go_enter Try.func42, Try.ntmps42
    go_wp2
    go_ret
    exact ⟨_, rfl, DRow.nil _ _ _ _, Below.refl _ _⟩
  | some a =>
    go_enter Try.func42, Try.ntmps42
    go_wp2_with (at_builtin; go_loud (refine wpList_append_drow (e := tRequester) rfl _ _ 54 rfl (w.alloc (.cells #[] 58)) w.heap.size 58 info_Requester rfl Try.underlying54 _ _ [] x (by rfl) (by rfl) (DRow.lit0 tRequester w 58 (Nat.le_refl _)) (Below.refl _ _) (Src.flat rfl (Ty.rd_below (by repeat' (first | (with_reducible exact Below.refl _ _) | (with_reducible assumption) | (with_reducible refine bel_set ?_ (by (try dsimp only); omega) _) | (with_reducible refine bel_alloc ?_ _) | (with_reducible refine bel_drewN ?_ _) | (with_reducible refine bel_drew ?_))) h) _) (by simp only [List.length_nil]; omega) (by simp only [List.length_nil]; unfold maxLen; omega) (by rw [World.size_alloc]; omega) ?_))
    intro v' w' hr' hg'
    have hb' : Below w.heap.size w w' := bel_grown (by repeat' (first | (with_reducible exact Below.refl _ _) | (with_reducible assumption) | (with_reducible refine bel_set ?_ (by (try dsimp only); omega) _) | (with_reducible refine bel_alloc ?_ _) | (with_reducible refine bel_drewN ?_ _) | (with_reducible refine bel_drew ?_))) (by (try simp only [World.size_alloc, World.size_setCell, size_drewN, World.size_drew]); omega) hg' (fun g hg => by have := ob_lit hg; omega)
    have HR' := Lib.hid hr'
    clear hr' hg'
    go_wp2
    go_ret
    exact ⟨_, rfl, HR'.out, hb'⟩
set_option maxRecDepth 100000 in
set_option maxHeartbeats 2000000 in
theorem C_impl_copyPending (w : World) (v : Value) (x : List (Ty.D tPendingInterest)) (h : (Ty.sl tPendingInterest).rd w [v] x) (s0 : Ty.bulk (.sl tPendingInterest) x ≤ 1000000000) :
    Calls Try.prog 26 #[v] w (RetDRow tPendingInterest w 56 x) := by
  obtain ⟨A, c, rfl, hc, hm, hn⟩ := Ty.rd_sl h
  have hxl := Ty.bulk_len s0
  go_enter Try.func26, Try.ntmps26
  go_wp2
  go_loopw [3, 9] (fun l i wr => ∃ k : Nat, k ≤ x.length ∧ i = .int .i64 k ∧ DRow tPendingInterest wr w.heap.size 56 l (x.take k) ∧ Below w.heap.size w wr) (fun _ i _ => x.length - (intOf i).toNat)
  case atStart => exact ⟨0, by omega, rfl, DRow.lit0 tPendingInterest w 56 (Nat.le_refl _), (by repeat' (first | (with_reducible exact Below.refl _ _) | (with_reducible assumption) | (with_reducible refine bel_set ?_ (by (try dsimp only); omega) _) | (with_reducible refine bel_alloc ?_ _) | (with_reducible refine bel_drewN ?_ _) | (with_reducible refine bel_drew ?_)))⟩
  case round =>
    obtain ⟨k, hk, rfl, hr, hb⟩ := hrel
    have HR := Lib.hid hr
    clear hr
    by_cases hlt : k < x.length
    · have HL := Lib.hid (show (x.take k).length = k from by rw [List.length_take]; omega)
      have HP := Lib.hid (List.take_succ_eq_append_getElem hlt)
      obtain ⟨b, o, dse, rfl, hle, hcelle, hrde⟩ := Ty.rd_at (Ty.rd_below hb h) hlt
      have hrde' := hrde
      obtain ⟨Ae0, ce0, Ae1, ce1, rfl, eg0, eg1, eg2⟩ := rd_PendingInterest hrde
      have e0 : wr.cell? ⟨b, o + k * 3, none⟩ = some (.slice Ae0 (List.length x[k].1) ce0) := by simpa [Ty.sz] using hcelle 0 (by decide)
      have e1 : wr.cell? ⟨b, o + k * 3 + 1, none⟩ = some (.slice Ae1 (List.length x[k].2.1) ce1) := by simpa [Ty.sz] using hcelle 1 (by decide)
      have e2 : wr.cell? ⟨b, o + k * 3 + 2, none⟩ = some (.int .i64 x[k].2.2) := by simpa [Ty.sz] using hcelle 2 (by decide)
      clear hcelle hle
      obtain ⟨hb1_, hb2_⟩ := pi_bulk (Ty.bulk_at s0 hlt)
      have hnl := Ty.bulk_len hb1_
      have hql := Ty.bulk_len hb2_
      have kb0_0 : (wr.alloc (.cells #[.slice Ae0 (List.length (x)[k].1) ce0, .slice Ae1 (List.length (x)[k].2.1) ce1, .int .i64 (x)[k].2.2] 56)).cell? ⟨wr.heap.size, 0, none⟩ = some (.slice Ae0 (List.length (x)[k].1) ce0) := (cell_new wr _ _ 0 (by first | rfl | simp only [World.size_alloc]))
      have kb0_1 : (wr.alloc (.cells #[.slice Ae0 (List.length (x)[k].1) ce0, .slice Ae1 (List.length (x)[k].2.1) ce1, .int .i64 (x)[k].2.2] 56)).cell? ⟨wr.heap.size, 1, none⟩ = some (.slice Ae1 (List.length (x)[k].2.1) ce1) := (cell_new wr _ _ 1 (by first | rfl | simp only [World.size_alloc]))
      have kb0_2 : (wr.alloc (.cells #[.slice Ae0 (List.length (x)[k].1) ce0, .slice Ae1 (List.length (x)[k].2.1) ce1, .int .i64 (x)[k].2.2] 56)).cell? ⟨wr.heap.size, 2, none⟩ = some (.int .i64 (x)[k].2.2) := (cell_new wr _ _ 2 (by first | rfl | simp only [World.size_alloc]))
      have hve : Below wr.heap.size wr (wr.alloc (.cells #[.slice Ae0 (List.length (x)[k].1) ce0, .slice Ae1 (List.length (x)[k].2.1) ce1, .int .i64 (x)[k].2.2] 56)) := (by repeat' (first | (with_reducible exact Below.refl _ _) | (with_reducible assumption) | (with_reducible refine bel_set ?_ (by (try dsimp only); omega) _) | (with_reducible refine bel_alloc ?_ _) | (with_reducible refine bel_drewN ?_ _) | (with_reducible refine bel_drew ?_)))
      have ze0 := Lib.hid (show (wr.alloc (.cells #[.slice Ae0 (List.length (x)[k].1) ce0, .slice Ae1 (List.length (x)[k].2.1) ce1, .int .i64 (x)[k].2.2] 56)).heap.size = wr.heap.size + 1 from by simp only [World.size_alloc])
      have ze : wr.heap.size < (wr.alloc (.cells #[.slice Ae0 (List.length (x)[k].1) ce0, .slice Ae1 (List.length (x)[k].2.1) ce1, .int .i64 (x)[k].2.2] 56)).heap.size := by simp only [World.size_alloc]; omega
      have hE0 : Blk (wr.alloc (.cells #[.slice Ae0 (List.length (x)[k].1) ce0, .slice Ae1 (List.length (x)[k].2.1) ce1, .int .i64 (x)[k].2.2] 56)) wr.heap.size 56 #[.slice Ae0 (List.length (x)[k].1) ce0, .slice Ae1 (List.length (x)[k].2.1) ce1, .int .i64 (x)[k].2.2] := Blk.new _ _ _
      go_wp2_with fail
      generalize (wr.alloc (.cells #[.slice Ae0 (List.length (x)[k].1) ce0, .slice Ae1 (List.length (x)[k].2.1) ce1, .int .i64 (x)[k].2.2] 56)) = WE at kb0_0 kb0_1 kb0_2 hve ze ze0 hE0 ⊢
      have hE := hE0
      clear hE0 kb0_0 kb0_1 kb0_2 e0 e1 e2
      have hv0 : Below WE.heap.size WE WE := Below.refl _ _
      have HH : Hid (∀ V, Below WE.heap.size WE V → Below w.heap.size w V ∧ V.cell? ⟨wr.heap.size, 0, none⟩ = some (.slice Ae0 (List.length (x)[k].1) ce0) ∧ V.cell? ⟨wr.heap.size, 1, none⟩ = some (.slice Ae1 (List.length (x)[k].2.1) ce1) ∧ V.cell? ⟨wr.heap.size, 2, none⟩ = some (.int .i64 (x)[k].2.2)) := fun V hV => ⟨bel_trans hb (bel_trans hve hV), (hE.below hV hE.lt).cell 0, (hE.below hV hE.lt).cell 1, (hE.below hV hE.lt).cell 2⟩
      refine wp_region_noPanic ?_
      refine wp_region_held_drew (S := (fun W => Below w.heap.size w W ∧ W.cell? ⟨wr.heap.size, 0, none⟩ = some (.slice Ae0 (List.length (x)[k].1) ce0) ∧ W.cell? ⟨wr.heap.size, 1, none⟩ = some (.slice Ae1 (List.length (x)[k].2.1) ce1) ∧ W.cell? ⟨wr.heap.size, 2, none⟩ = some (.int .i64 (x)[k].2.2))) (by kernel_rfl) ?_ (fun hHeld => ?_)
      · exact HH.out _ (by (repeat' (first | (with_reducible exact Below.refl _ _) | (with_reducible assumption) | (with_reducible refine bel_set ?_ (by (try dsimp only); omega) _) | (with_reducible refine bel_alloc ?_ _) | (with_reducible refine bel_drewN ?_ _) | (with_reducible refine bel_drew ?_) | (with_reducible refine bel_trans ?_ (by assumption)))); done)
      refine tk 0 (opN rfl) (by kernel_rfl) (by rfl) (by (intro w hSw; (try dsimp only at hSw); go_simp; first | done | with_reducible rfl)) (by assumption) ?_
      try simp only [Act.put, List.setIfInBounds_toArray, List.set_cons_zero, List.set_cons_succ]
      refine tk 1 (opN rfl) (by kernel_rfl) (by rfl) (by (intro w hSw; (try dsimp only at hSw); go_simp; first | done | with_reducible rfl)) (by assumption) ?_
      try simp only [Act.put, List.setIfInBounds_toArray, List.set_cons_zero, List.set_cons_succ]
      refine tk 2 (opN rfl) (by kernel_rfl) (by rfl) (by (intro w hSw; (try dsimp only at hSw); go_simp; first | done | with_reducible rfl)) (by assumption) ?_
      try simp only [Act.put, List.setIfInBounds_toArray, List.set_cons_zero, List.set_cons_succ]
      refine tk 4 (opN rfl) (by kernel_rfl) (by rfl) (by (intro w hSw; (try dsimp only at hSw); go_simp; first | done | with_reducible rfl)) (by assumption) ?_
      try simp only [Act.put, List.setIfInBounds_toArray, List.set_cons_zero, List.set_cons_succ]
      refine tk 5 (opN rfl) (by kernel_rfl) (by rfl) (by (intro w hSw; (try dsimp only at hSw); go_simp; first | done | with_reducible rfl)) (by assumption) ?_
      try simp only [Act.put, List.setIfInBounds_toArray, List.set_cons_zero, List.set_cons_succ]
      refine tk 7 (opN rfl) (by kernel_rfl) (by rfl) (by (intro w hSw; (try dsimp only at hSw); go_simp; first | done | with_reducible rfl)) (by assumption) ?_
      try simp only [Act.put, List.setIfInBounds_toArray, List.set_cons_zero, List.set_cons_succ]
      refine tk 8 (opN rfl) (by kernel_rfl) (by rfl) (by (intro w hSw; (try dsimp only at hSw); go_simp; first | done | with_reducible rfl)) (by assumption) ?_
      try simp only [Act.put, List.setIfInBounds_toArray, List.set_cons_zero, List.set_cons_succ]
      refine wpAnyH_ready (rs := [3]) (by kernel_rfl) (by simp) ?_
      refine (AllReadyH.cons (opN rfl) (fun K hK => ?_) AllReadyH.nil)
      go_simp
      go_at_call 41
      refine (C_impl_copyName _ _ x[k].1 (Ty.rd_below (bel_trans hve (by (repeat' (first | (with_reducible exact Below.refl _ _) | (with_reducible assumption) | (with_reducible refine bel_set ?_ (by (try dsimp only); omega) _) | (with_reducible refine bel_alloc ?_ _) | (with_reducible refine bel_drewN ?_ _) | (with_reducible refine bel_drew ?_) | (with_reducible refine bel_trans ?_ (by assumption)))); done)) eg0) (by omega)).mono ?_
      rintro e w1 ⟨cs1, fp1, rfl, how1, hfr1, hb1⟩
      obtain ⟨A1, c1, rfl⟩ := Ty.ow_slv how1
      refine hK.out _ _ ?_ (fun hHeld => ?_)
      · (try dsimp only)
        exact HH.out _ (by (repeat' (first | (with_reducible exact Below.refl _ _) | (with_reducible assumption) | (with_reducible refine bel_set ?_ (by (try dsimp only); omega) _) | (with_reducible refine bel_alloc ?_ _) | (with_reducible refine bel_drewN ?_ _) | (with_reducible refine bel_drew ?_) | (with_reducible refine bel_trans ?_ (by assumption)))); done)
      clear hK K
      try simp only [Act.put, List.setIfInBounds_toArray, List.set_cons_zero, List.set_cons_succ]
      refine wpAnyH_ready (rs := [6]) (by kernel_rfl) (by simp) ?_
      refine (AllReadyH.cons (opN rfl) (fun K hK => ?_) AllReadyH.nil)
      go_simp
      go_at_call 42
      refine (C_slices_Clone_Req _ _ x[k].2.1 (Ty.rd_below (bel_trans hve (by (repeat' (first | (with_reducible exact Below.refl _ _) | (with_reducible assumption) | (with_reducible refine bel_set ?_ (by (try dsimp only); omega) _) | (with_reducible refine bel_alloc ?_ _) | (with_reducible refine bel_drewN ?_ _) | (with_reducible refine bel_drew ?_) | (with_reducible refine bel_trans ?_ (by assumption)))); done)) eg1) (by omega)).mono ?_
      rintro e w2 ⟨v2, rfl, hr2, hb2⟩
      obtain ⟨A2, c2, fp2, hv2, how2, hfr2⟩ := hr2.own
      subst hv2
      have hz1 := hb1.size
      have hz2 := hb2.size
      (try simp only [World.size_drew, size_drewN] at hz1)
      refine hK.out _ _ ?_ (fun hHeld => ?_)
      · (try dsimp only)
        exact HH.out _ (by (repeat' (first | (with_reducible exact Below.refl _ _) | (with_reducible assumption) | (with_reducible refine bel_set ?_ (by (try dsimp only); omega) _) | (with_reducible refine bel_alloc ?_ _) | (with_reducible refine bel_drewN ?_ _) | (with_reducible refine bel_drew ?_) | (with_reducible refine bel_trans ?_ (by assumption)))); done)
      clear hK K
      try simp only [Act.put, List.setIfInBounds_toArray, List.set_cons_zero, List.set_cons_succ]
      refine tk 9 (opN rfl) (by kernel_rfl) (by rfl) (by (intro w hSw; (try dsimp only at hSw); go_simp; first | done | with_reducible rfl)) (by assumption) ?_
      try simp only [Act.put, List.setIfInBounds_toArray, List.set_cons_zero, List.set_cons_succ]
      refine wpAnyH_ready (rs := [10]) (by kernel_rfl) (by simp) ?_
      refine (AllReadyH.cons (opN rfl) (fun K hK => ?_) AllReadyH.nil)
      go_simp
      refine hK.out _ _ ?_ (fun hHeld => ?_)
      · (try dsimp only)
        exact HH.out _ (by (repeat' (first | (with_reducible exact Below.refl _ _) | (with_reducible assumption) | (with_reducible refine bel_set ?_ (by (try dsimp only); omega) _) | (with_reducible refine bel_alloc ?_ _) | (with_reducible refine bel_drewN ?_ _) | (with_reducible refine bel_drew ?_) | (with_reducible refine bel_trans ?_ (by assumption)))); done)
      clear hK K
      try simp only [Act.put, List.setIfInBounds_toArray, List.set_cons_zero, List.set_cons_succ]
      refine wpAnyH_ready (rs := [11]) (by kernel_rfl) (by simp) ?_
      refine (AllReadyH.cons (opN rfl) (fun K hK => ?_) AllReadyH.nil)
      refine step_append_drow (by rfl) _ _ 31 (by rfl) wr w.heap.size 56 info_PendingInterest rfl Try.underlying31 _ _ (x.take k) [x[k]] (by rfl) (by rfl) HR.out (bel_trans hve (by (repeat' (first | (with_reducible exact Below.refl _ _) | (with_reducible assumption) | (with_reducible refine bel_set ?_ (by (try dsimp only); omega) _) | (with_reducible refine bel_alloc ?_ _) | (with_reducible refine bel_drewN ?_ _) | (with_reducible refine bel_drew ?_) | (with_reducible refine bel_trans ?_ (by assumption)))); done)) (Src.litE 56 (ow_PImk (x := x[k]) (Ty.ow_bel hb2 how1) how2 eg2) (FrI.app (m := w1.heap.size) (m' := w1.heap.size) (hfr1.mono (by have := hve.size; (try simp only [World.size_drew, size_drewN]); omega) (Nat.le_refl _)) (by rw [List.append_nil]; exact hfr2) (Nat.le_refl _) (by have := hve.size; omega) (by omega)) (by first | rfl | simp only [World.size_alloc])) (by rw [HL.out, List.length_singleton]; omega) (by rw [HL.out, List.length_singleton]; unfold maxLen; omega) hb.size ?_
      intro v' w' hr' hg'
      have hbn : Below w.heap.size w w' := grow_bel (bel_trans hb (bel_trans hve (by (repeat' (first | (with_reducible exact Below.refl _ _) | (with_reducible assumption) | (with_reducible refine bel_set ?_ (by (try dsimp only); omega) _) | (with_reducible refine bel_alloc ?_ _) | (with_reducible refine bel_drewN ?_ _) | (with_reducible refine bel_drew ?_) | (with_reducible refine bel_trans ?_ (by assumption)))); done))) hg' (fun g hg => (HR.out.block g hg).1)
      have hEn := grow_blk (w0 := WE) (by (repeat' (first | (with_reducible exact Below.refl _ _) | (with_reducible assumption) | (with_reducible refine bel_set ?_ (by (try dsimp only); omega) _) | (with_reducible refine bel_alloc ?_ _) | (with_reducible refine bel_drewN ?_ _) | (with_reducible refine bel_drew ?_) | (with_reducible refine bel_trans ?_ (by assumption)))); done) hg' hE (fun e => by have := (HR.out.block _ e.symm).2; omega)
      refine hK.out _ _ ?_ (fun hHeld => ?_)
      · (try dsimp only)
        exact ⟨hbn, hEn.cell 0, hEn.cell 1, hEn.cell 2⟩
      clear hK K
      try simp only [Act.put, List.setIfInBounds_toArray, List.set_cons_zero, List.set_cons_succ]
      refine tk 12 (opN rfl) (by kernel_rfl) (by rfl) (by (intro w hSw; (try dsimp only at hSw); go_simp; first | done | with_reducible rfl)) (by assumption) ?_
      try simp only [Act.put, List.setIfInBounds_toArray, List.set_cons_zero, List.set_cons_succ]
      refine wpAnyH_done (by kernel_rfl) ?_ _
      refine NoPanic.normal ?_
      have HR' := Lib.hid hr'
      clear hr' hg'
      go_wp2
      go_roundw
      case rel => exact ⟨k + 1, by omega, by go_num, by rw [HP.out]; exact HR'.out, hbn⟩
      case measure => simp [intOf]; omega
    · have HE : Hid (x.take k = x) := List.take_of_length_le (by omega)
      go_wp2
      go_ret
      exact ⟨_, rfl, by rw [HE.out] at HR; exact HR.out, hb⟩
end Go.Proofs.Ytpjnidfdkggpfaa
