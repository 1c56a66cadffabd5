/- Texts of this claim, merged by a program: Vtr. -/
import Derived.Test.YtldgbnlcnlfmeaaGreatQtP
import Derived.Test.YtldgbnlcnlfmeaaGreatQt23
import Derived.Test.YtldgbnlcnlfmeaaGreatQt10
import Derived.Test.YtldgbnlcnlfmeaaGreatQt9
import Derived.Test.YtldgbnlcnlfmeaaGreatQt6
import Derived.Test.YtldgbnlcnlfmeaaGreatQt12
namespace Go.Proofs.YtldgbnlcnlfmeaaGreat
open Go.RowKit
set_option linter.unusedVariables false
set_option linter.unusedSimpArgs false
def badAnchor (l : List (Ty.D tKey)) (n : List (List UInt8)) : Bool := !l.any (sameName n)
def badPaper (x : Ty.D tData) : Bool := !f_ValidData x
def f_ValidTrust (t : Ty.D tTrustPolicy) : Bool := (f_ValidKeys t.1 && (validRules t.2.1 && (decide (List.length t.2.2.1 ≤ 8) && decide (List.length t.2.2.2 ≤ 8)))) && (!(t.2.2.1.any (badAnchor t.1)) && !(t.2.2.2.any badPaper))
theorem any_mem_true {α : Type} {p : α → Bool} {l : List α} {k : Nat} (h : k < l.length) (hp : p l[k] = true) : l.any p = true := List.any_eq_true.2 ⟨_, List.getElem_mem h, hp⟩
set_option maxHeartbeats 1000000 in
theorem C_impl_ValidTrust1 (W : World) (ds : List Value) (d : Ty.D tKey) (n : List (List UInt8)) (A : Option Addr) (c bo : Nat) (hx : Ty.rd W tKey ds d) (ko : W.cell? ⟨bo, 0, none⟩ = some (.slice A (List.length n) c)) (hn : (Ty.sl .str).rd W [.slice A (List.length n) c] n) :
  Calls Tryz.prog 75 #[.agg ds.toArray, .pointer (some ⟨bo, 0, none⟩)] W (RetB W (sameName n d)) := by
 obtain ⟨Ad0, cd0, rfl, dg0, dg1⟩ := rd_Key hx
 have lo : bo < W.heap.size := World.block_lt_of_cell? W _ ko
 go_enter Tryz.func75, Tryz.ntmps75
 go_wp2_with fail
 refine (C_impl_EqualNames _ _ _ _ _ (Ty.rd_below b_10 dg0) (Ty.rd_below b_10 hn)).mono ?_
 rintro e w1 ⟨rfl, hb1⟩
 go_wp2
 go_ret
 exact ⟨rfl, bel_trans b_10 hb1⟩
set_option maxHeartbeats 1000000 in
theorem C_impl_ValidTrust2 (W : World) (ds : List Value) (d : Ty.D tData) (hx : Ty.rd W tData ds d) (s0 : Ty.bulk tData d ≤ 1048576) :
  Calls Tryz.prog 78 #[.agg ds.toArray] W (RetB W (badPaper d)) := by
 have hx' := hx
 obtain ⟨Ad0, cd0, Ad1, cd1, Ad2, cd2, rfl, dg0, dg1, dg2, dg3, dg4⟩ := rd_Data hx
 go_enter Tryz.func78, Tryz.ntmps78
 go_wp2_with fail
 refine (C_impl_ValidData _ _ _ (Ty.rd_below b_10 hx') s0).mono ?_
 rintro e w1 ⟨rfl, hb1⟩
 go_wp2
 go_ret
 exact ⟨rfl, bel_trans b_10 hb1⟩
set_option maxRecDepth 100000 in
set_option maxHeartbeats 2000000 in
theorem C_impl_ValidTrust (w : World) (cs : List Value) (t : Ty.D tTrustPolicy) (h : Ty.rd w tTrustPolicy cs t) (s0 : Ty.bulk tTrustPolicy t ≤ 1048576) :
  Calls Tryz.prog 21 #[.agg cs.toArray] w (RetB w (f_ValidTrust t)) := by
 obtain ⟨At0, ct0, At1, ct1, At2, ct2, At3, ct3, rfl, tg0, tg1, tg2, tg3⟩ := rd_TrustPolicy h
 obtain ⟨s0a, s0b, s0c, s0d⟩ := trust_parts s0
 have hla := Ty.bulk_len s0c
 have hlc := Ty.bulk_len s0d
 have hF : f_ValidTrust t = ((f_ValidKeys t.1 && (validRules t.2.1 && (decide (List.length t.2.2.1 ≤ 8) && decide (List.length t.2.2.2 ≤ 8)))) && (!(t.2.2.1.any (badAnchor t.1)) && !(t.2.2.2.any badPaper))) := rfl
 generalize f_ValidTrust t = F at hF ⊢
 have HF := Lib.hid hF
 clear hF
 have kb0_0 : (w.alloc (.cells #[.slice At0 (List.length t.1) ct0, .slice At1 (List.length t.2.1) ct1, .slice At2 (List.length t.2.2.1) ct2, .slice At3 (List.length t.2.2.2) ct3] 29)).cell? ⟨w.heap.size, 0, none⟩ = some (.slice At0 (List.length t.1) ct0) := (cell_new w _ _ 0 b_27)
 have kb0_1 : (w.alloc (.cells #[.slice At0 (List.length t.1) ct0, .slice At1 (List.length t.2.1) ct1, .slice At2 (List.length t.2.2.1) ct2, .slice At3 (List.length t.2.2.2) ct3] 29)).cell? ⟨w.heap.size, 1, none⟩ = some (.slice At1 (List.length t.2.1) ct1) := (cell_new w _ _ 1 b_27)
 have kb0_2 : (w.alloc (.cells #[.slice At0 (List.length t.1) ct0, .slice At1 (List.length t.2.1) ct1, .slice At2 (List.length t.2.2.1) ct2, .slice At3 (List.length t.2.2.2) ct3] 29)).cell? ⟨w.heap.size, 2, none⟩ = some (.slice At2 (List.length t.2.2.1) ct2) := (cell_new w _ _ 2 b_27)
 have kb0_3 : (w.alloc (.cells #[.slice At0 (List.length t.1) ct0, .slice At1 (List.length t.2.1) ct1, .slice At2 (List.length t.2.2.1) ct2, .slice At3 (List.length t.2.2.2) ct3] 29)).cell? ⟨w.heap.size, 3, none⟩ = some (.slice At3 (List.length t.2.2.2) ct3) := (cell_new w _ _ 3 b_27)
 have hvb : Below w.heap.size w (w.alloc (.cells #[.slice At0 (List.length t.1) ct0, .slice At1 (List.length t.2.1) ct1, .slice At2 (List.length t.2.2.1) ct2, .slice At3 (List.length t.2.2.2) ct3] 29)) := b_10
 have zb0 := Lib.hid (show (w.alloc (.cells #[.slice At0 (List.length t.1) ct0, .slice At1 (List.length t.2.1) ct1, .slice At2 (List.length t.2.2.1) ct2, .slice At3 (List.length t.2.2.2) ct3] 29)).heap.size = w.heap.size + 1 from by simp only [World.size_alloc])
 have zb : w.heap.size < (w.alloc (.cells #[.slice At0 (List.length t.1) ct0, .slice At1 (List.length t.2.1) ct1, .slice At2 (List.length t.2.2.1) ct2, .slice At3 (List.length t.2.2.2) ct3] 29)).heap.size := by simp only [World.size_alloc]; omega
 have hmf := hmf_ (P := Tryz.prog)
 go_enter Tryz.func21, Tryz.ntmps21
 go_wp2
 generalize (w.alloc (.cells #[.slice At0 (List.length t.1) ct0, .slice At1 (List.length t.2.1) ct1, .slice At2 (List.length t.2.2.1) ct2, .slice At3 (List.length t.2.2.2) ct3] 29)) = WX at kb0_0 kb0_1 kb0_2 kb0_3 hvb zb zb0 ⊢
 have HC : Hid (∀ V, Below WX.heap.size WX V → V.cell? ⟨w.heap.size, 0, none⟩ = some (.slice At0 (List.length t.1) ct0) ∧ V.cell? ⟨w.heap.size, 1, none⟩ = some (.slice At1 (List.length t.2.1) ct1) ∧ V.cell? ⟨w.heap.size, 2, none⟩ = some (.slice At2 (List.length t.2.2.1) ct2) ∧ V.cell? ⟨w.heap.size, 3, none⟩ = some (.slice At3 (List.length t.2.2.2) ct3)) := fun V hW => ⟨(hW.cell (p := ⟨w.heap.size, 0, none⟩) b_34).trans kb0_0, (hW.cell (p := ⟨w.heap.size, 1, none⟩) b_34).trans kb0_1, (hW.cell (p := ⟨w.heap.size, 2, none⟩) b_34).trans kb0_2, (hW.cell (p := ⟨w.heap.size, 3, none⟩) b_34).trans kb0_3⟩
 clear kb0_0 kb0_1 kb0_2 kb0_3
 go_loopw [8] (fun i wr => ∃ k : Nat, k ≤ List.length t.2.2.1 ∧ i = .int .i64 k ∧ (List.take k t.2.2.1).any (badAnchor t.1) = false ∧ Below WX.heap.size WX wr) (fun i _ => List.length t.2.2.1 - (intOf i).toNat)
 case atStart => exact ⟨0, by omega, by first | rfl | simp, by simp, Below.refl _ _⟩
 case round =>
  obtain ⟨k, hk, rfl, ht, hb⟩ := hrel
  have HT := Lib.hid ht
  clear ht
  have hw : Below w.heap.size w wr := bel_trans hvb hb
  obtain ⟨j0, j1, j2, j3⟩ := HC.out _ (hb)
  have zw0 : w.heap.size < wr.heap.size := by have := hb.size; omega
  by_cases hlt : k < List.length t.2.2.1
  ·have HSX := Lib.hid (any_take_succ (badAnchor t.1) t.2.2.1 hlt)
   obtain ⟨b, o, dse, rfl, hle, hcelle, hrde⟩ := Ty.rd_at (Ty.rd_below hw tg2) hlt
   have hrde' := hrde
   obtain ⟨Ae0, ce0, rfl⟩ := Ty.rd_slv hrde
   have e0 : wr.cell? ⟨b, o + k, none⟩ = some (.slice Ae0 (List.length (t.2.2.1)[k]) ce0) := by simpa [Ty.sz] using hcelle 0 b_36
   clear hcelle hle
   have kb0_0 : (wr.alloc (.cells #[.slice Ae0 (List.length (t.2.2.1)[k]) ce0] 32)).cell? ⟨wr.heap.size, 0, none⟩ = some (.slice Ae0 (List.length (t.2.2.1)[k]) ce0) := (cell_new wr _ _ 0 b_27)
   have hve : Below wr.heap.size wr (wr.alloc (.cells #[.slice Ae0 (List.length (t.2.2.1)[k]) ce0] 32)) := b_10
   have ze0 := Lib.hid (show (wr.alloc (.cells #[.slice Ae0 (List.length (t.2.2.1)[k]) ce0] 32)).heap.size = wr.heap.size + 1 from by simp only [World.size_alloc])
   have ze : wr.heap.size < (wr.alloc (.cells #[.slice Ae0 (List.length (t.2.2.1)[k]) ce0] 32)).heap.size := by simp only [World.size_alloc]; omega
   go_wp2_with fail
   generalize (wr.alloc (.cells #[.slice Ae0 (List.length (t.2.2.1)[k]) ce0] 32)) = WE at kb0_0 hve ze ze0 ⊢
   have HD : Hid (∀ V, Below WE.heap.size WE V → V.cell? ⟨wr.heap.size, 0, none⟩ = some (.slice Ae0 (List.length (t.2.2.1)[k]) ce0)) := fun V hW => (hW.cell (p := ⟨wr.heap.size, 0, none⟩) b_34).trans kb0_0
   clear kb0_0
   refine (C_ContainsFunc_Key _ _ t.1 (sameName (t.2.2.1)[k]) 75 #[.pointer (some ⟨wr.heap.size, 0, none⟩)] (enters_of Tryz.func75 b_35 rfl) (Ty.rd_below (bel_trans hw hve) tg0) (fun W ds d hd hr hW => ?_)).mono ?_
   ·exact C_impl_ValidTrust1 W ds d _ _ _ _ hr (HD.out W hW) (Ty.rd_below (bel_trans hve hW) hrde')
   rintro e w3 ⟨rfl, hb3⟩
   have hv3 : Below wr.heap.size wr w3 := bel_trans hve hb3
   cases q4 : t.1.any (sameName (t.2.2.1)[k])
   ·have HZ := Lib.hid (show F = false from by rw [HF.out, any_mem_true hlt (by unfold badAnchor; rw [q4]; rfl)]; simp)
    go_wp2
    go_ret
    exact ⟨ret_bool (by rw [HZ.out]), bel_trans hw hv3⟩
   ·have HZ := Lib.hid (show badAnchor t.1 (t.2.2.1)[k] = false from by unfold badAnchor; rw [q4]; rfl)
    go_wp2
    go_roundw
    case rel => exact ⟨k + 1, by omega, by go_num, by rw [HSX.out, HT.out, HZ.out]; rfl, bel_trans hb hv3⟩
    case measure => simp [intOf]; omega
  ·have HE : Hid (t.2.2.1.any (badAnchor t.1) = false) := by have := HT.out; rwa [List.take_of_length_le b_37] at this
   go_wp2_with fail
   refine (C_impl_ValidKeys _ _ t.1 (Ty.rd_below (hw) tg0) s0a).mono ?_
   rintro e w4 ⟨rfl, hb4⟩
   clear j0 j1 j2 j3
   obtain ⟨j0, j1, j2, j3⟩ := HC.out _ ((bel_trans hb hb4))
   have zv4 : w.heap.size < w4.heap.size := by have := hb4.size; omega
   cases q0 : f_ValidKeys t.1
   ·have HZ := Lib.hid (show F = false from by rw [HF.out, q0]; rfl)
    go_wp2
    go_ret
    exact ⟨ret_bool (by rw [HZ.out]), bel_trans (hw) hb4⟩
   go_wp2_with fail
   refine (C_impl_ValidRules _ _ t.2.1 (Ty.rd_below (bel_trans (hw) hb4) tg1) s0b).mono ?_
   rintro e w5 ⟨rfl, hb5⟩
   clear j0 j1 j2 j3
   have hb45 : Below wr.heap.size wr w5 := bel_trans hb4 hb5
   obtain ⟨j0, j1, j2, j3⟩ := HC.out _ ((bel_trans hb hb45))
   have zv5 : w.heap.size < w5.heap.size := by have := hb45.size; omega
   cases q1 : validRules t.2.1
   ·have HZ := Lib.hid (show F = false from by rw [HF.out, q1]; simp)
    go_wp2
    go_ret
    exact ⟨ret_bool (by rw [HZ.out]), bel_trans (hw) hb45⟩
   by_cases h2 : List.length t.2.2.1 ≤ 8
   rotate_left
   ·have HZ := Lib.hid (show F = false from by rw [HF.out, decide_eq_false h2]; simp)
    have q2 : decide ((List.length t.2.2.1 : Int) ≤ 8) = false := by simp; omega
    go_wp2
    go_ret
    exact ⟨ret_bool (by rw [HZ.out]), bel_trans (hw) hb45⟩
   have q2 : decide ((List.length t.2.2.1 : Int) ≤ 8) = true := by simp; omega
   by_cases h3 : List.length t.2.2.2 ≤ 8
   rotate_left
   ·have HZ := Lib.hid (show F = false from by rw [HF.out, decide_eq_false h3]; simp)
    have q3 : decide ((List.length t.2.2.2 : Int) ≤ 8) = false := by simp; omega
    go_wp2
    go_ret
    exact ⟨ret_bool (by rw [HZ.out]), bel_trans (hw) hb45⟩
   have q3 : decide ((List.length t.2.2.2 : Int) ≤ 8) = true := by simp; omega
   have HF2 := Lib.hid (show F = !(t.2.2.2.any badPaper) from by rw [HF.out, q0, q1, decide_eq_true h2, decide_eq_true h3, HE.out]; rfl)
   go_wp2_with fail
   refine (C_ContainsFunc_Data _ _ t.2.2.2 badPaper 78 #[] (enters_of Tryz.func78 b_35 rfl) (Ty.rd_below (bel_trans hw hb45) tg3) (fun W ds d hd hr hW => ?_)).mono ?_
   ·obtain ⟨i, hi, rfl⟩ := List.getElem_of_mem hd
    rw [Array.append_empty]; exact C_impl_ValidTrust2 W ds _ hr (Ty.bulk_at s0d hi)
   rintro e w6 ⟨rfl, hb6⟩
   generalize t.2.2.2.any badPaper = G at HF2 ⊢
   go_wp2
   go_ret
   exact ⟨ret_bool (by rw [HF2.out]), bel_trans hw (bel_trans hb45 hb6)⟩
set_option maxRecDepth 100000 in
set_option maxHeartbeats 2000000 in
theorem C_spec_ValidTrust (w : World) (cs : List Value) (t : Ty.D tTrustPolicy) (h : Ty.rd w tTrustPolicy cs t) (s0 : Ty.bulk tTrustPolicy t ≤ 1048576) :
  Calls Tryz.prog 22 #[.agg cs.toArray] w (RetB w (f_ValidTrust t)) := by
 obtain ⟨At0, ct0, At1, ct1, At2, ct2, At3, ct3, rfl, tg0, tg1, tg2, tg3⟩ := rd_TrustPolicy h
 obtain ⟨s0a, s0b, s0c, s0d⟩ := trust_parts s0
 have hla := Ty.bulk_len s0c
 have hlc := Ty.bulk_len s0d
 have hF : f_ValidTrust t = ((f_ValidKeys t.1 && (validRules t.2.1 && (decide (List.length t.2.2.1 ≤ 8) && decide (List.length t.2.2.2 ≤ 8)))) && (!(t.2.2.1.any (badAnchor t.1)) && !(t.2.2.2.any badPaper))) := rfl
 generalize f_ValidTrust t = F at hF ⊢
 have HF := Lib.hid hF
 clear hF
 have kb0_0 : (w.alloc (.cells #[.slice At0 (List.length t.1) ct0, .slice At1 (List.length t.2.1) ct1, .slice At2 (List.length t.2.2.1) ct2, .slice At3 (List.length t.2.2.2) ct3] 29)).cell? ⟨w.heap.size, 0, none⟩ = some (.slice At0 (List.length t.1) ct0) := (cell_new w _ _ 0 b_27)
 have kb0_1 : (w.alloc (.cells #[.slice At0 (List.length t.1) ct0, .slice At1 (List.length t.2.1) ct1, .slice At2 (List.length t.2.2.1) ct2, .slice At3 (List.length t.2.2.2) ct3] 29)).cell? ⟨w.heap.size, 1, none⟩ = some (.slice At1 (List.length t.2.1) ct1) := (cell_new w _ _ 1 b_27)
 have kb0_2 : (w.alloc (.cells #[.slice At0 (List.length t.1) ct0, .slice At1 (List.length t.2.1) ct1, .slice At2 (List.length t.2.2.1) ct2, .slice At3 (List.length t.2.2.2) ct3] 29)).cell? ⟨w.heap.size, 2, none⟩ = some (.slice At2 (List.length t.2.2.1) ct2) := (cell_new w _ _ 2 b_27)
 have kb0_3 : (w.alloc (.cells #[.slice At0 (List.length t.1) ct0, .slice At1 (List.length t.2.1) ct1, .slice At2 (List.length t.2.2.1) ct2, .slice At3 (List.length t.2.2.2) ct3] 29)).cell? ⟨w.heap.size, 3, none⟩ = some (.slice At3 (List.length t.2.2.2) ct3) := (cell_new w _ _ 3 b_27)
 have hvb : Below w.heap.size w (w.alloc (.cells #[.slice At0 (List.length t.1) ct0, .slice At1 (List.length t.2.1) ct1, .slice At2 (List.length t.2.2.1) ct2, .slice At3 (List.length t.2.2.2) ct3] 29)) := b_10
 have zb0 := Lib.hid (show (w.alloc (.cells #[.slice At0 (List.length t.1) ct0, .slice At1 (List.length t.2.1) ct1, .slice At2 (List.length t.2.2.1) ct2, .slice At3 (List.length t.2.2.2) ct3] 29)).heap.size = w.heap.size + 1 from by simp only [World.size_alloc])
 have zb : w.heap.size < (w.alloc (.cells #[.slice At0 (List.length t.1) ct0, .slice At1 (List.length t.2.1) ct1, .slice At2 (List.length t.2.2.1) ct2, .slice At3 (List.length t.2.2.2) ct3] 29)).heap.size := by simp only [World.size_alloc]; omega
 go_enter Tryz.func22, Tryz.ntmps22
 go_wp2_with fail
 generalize (w.alloc (.cells #[.slice At0 (List.length t.1) ct0, .slice At1 (List.length t.2.1) ct1, .slice At2 (List.length t.2.2.1) ct2, .slice At3 (List.length t.2.2.2) ct3] 29)) = WX at kb0_0 kb0_1 kb0_2 kb0_3 hvb zb zb0 ⊢
 have HC : Hid (∀ V, Below WX.heap.size WX V → V.cell? ⟨w.heap.size, 0, none⟩ = some (.slice At0 (List.length t.1) ct0) ∧ V.cell? ⟨w.heap.size, 1, none⟩ = some (.slice At1 (List.length t.2.1) ct1) ∧ V.cell? ⟨w.heap.size, 2, none⟩ = some (.slice At2 (List.length t.2.2.1) ct2) ∧ V.cell? ⟨w.heap.size, 3, none⟩ = some (.slice At3 (List.length t.2.2.2) ct3)) := fun V hW => ⟨(hW.cell (p := ⟨w.heap.size, 0, none⟩) b_34).trans kb0_0, (hW.cell (p := ⟨w.heap.size, 1, none⟩) b_34).trans kb0_1, (hW.cell (p := ⟨w.heap.size, 2, none⟩) b_34).trans kb0_2, (hW.cell (p := ⟨w.heap.size, 3, none⟩) b_34).trans kb0_3⟩
 clear kb0_0 kb0_1 kb0_2 kb0_3
 obtain ⟨j0, j1, j2, j3⟩ := HC.out WX (Below.refl _ _)
 go_wp2_with fail
 refine (C_spec_ValidKeys _ _ t.1 (Ty.rd_below (hvb) tg0) s0a).mono ?_
 rintro e w4 ⟨rfl, hb4⟩
 clear j0 j1 j2 j3
 obtain ⟨j0, j1, j2, j3⟩ := HC.out _ ((bel_trans (Below.refl _ _) hb4))
 have zv4 : w.heap.size < w4.heap.size := by have := hb4.size; omega
 cases q0 : f_ValidKeys t.1
 ·have HZ := Lib.hid (show F = false from by rw [HF.out, q0]; rfl)
  go_wp2
  go_ret
  exact ⟨ret_bool (by rw [HZ.out]), bel_trans (hvb) hb4⟩
 go_wp2_with fail
 refine (C_spec_ValidRules _ _ t.2.1 (Ty.rd_below (bel_trans (hvb) hb4) tg1) s0b).mono ?_
 rintro e w5 ⟨rfl, hb5⟩
 clear j0 j1 j2 j3
 have hb45 : Below WX.heap.size WX w5 := bel_trans hb4 hb5
 obtain ⟨j0, j1, j2, j3⟩ := HC.out _ ((bel_trans (Below.refl _ _) hb45))
 have zv5 : w.heap.size < w5.heap.size := by have := hb45.size; omega
 cases q1 : validRules t.2.1
 ·have HZ := Lib.hid (show F = false from by rw [HF.out, q1]; simp)
  go_wp2
  go_ret
  exact ⟨ret_bool (by rw [HZ.out]), bel_trans (hvb) hb45⟩
 by_cases h2 : List.length t.2.2.1 ≤ 8
 rotate_left
 ·have HZ := Lib.hid (show F = false from by rw [HF.out, decide_eq_false h2]; simp)
  have q2 : decide ((8 : Int) < (List.length t.2.2.1 : Int)) = true := by simp; omega
  go_wp2
  go_ret
  exact ⟨ret_bool (by rw [HZ.out]), bel_trans (hvb) hb45⟩
 have q2 : decide ((8 : Int) < (List.length t.2.2.1 : Int)) = false := by simp; omega
 by_cases h3 : List.length t.2.2.2 ≤ 8
 rotate_left
 ·have HZ := Lib.hid (show F = false from by rw [HF.out, decide_eq_false h3]; simp)
  have q3 : decide ((8 : Int) < (List.length t.2.2.2 : Int)) = true := by simp; omega
  go_wp2
  go_ret
  exact ⟨ret_bool (by rw [HZ.out]), bel_trans (hvb) hb45⟩
 have q3 : decide ((8 : Int) < (List.length t.2.2.2 : Int)) = false := by simp; omega
 have HF2 := Lib.hid (show F = (!(t.2.2.1.any (badAnchor t.1)) && !(t.2.2.2.any badPaper)) from by rw [HF.out, q0, q1, decide_eq_true h2, decide_eq_true h3]; rfl)
 go_wp2
 clear j0 j1 j2 j3 q0 q1 q2 q3
 go_loopw [3] (fun i wr => ∃ k : Nat, k ≤ List.length t.2.2.1 ∧ i = .int .i64 k ∧ (List.take k t.2.2.1).any (badAnchor t.1) = false ∧ Below WX.heap.size WX wr) (fun i _ => List.length t.2.2.1 - (intOf i).toNat)
 case atStart => exact ⟨0, by omega, by first | rfl | simp, by simp, hb45⟩
 case round =>
  obtain ⟨k, hk, rfl, ht, hb⟩ := hrel
  have HT := Lib.hid ht
  clear ht
  have hw : Below w.heap.size w wr := bel_trans hvb hb
  obtain ⟨j0, j1, j2, j3⟩ := HC.out _ (hb)
  have zw0 : w.heap.size < wr.heap.size := by have := hb.size; omega
  by_cases hlt : k < List.length t.2.2.1
  ·have HSX := Lib.hid (any_take_succ (badAnchor t.1) t.2.2.1 hlt)
   obtain ⟨b, o, dse, rfl, hle, hcelle, hrde⟩ := Ty.rd_at (Ty.rd_below hw tg2) hlt
   have hrde' := hrde
   obtain ⟨Ae0, ce0, rfl⟩ := Ty.rd_slv hrde
   have e0 : wr.cell? ⟨b, o + k, none⟩ = some (.slice Ae0 (List.length (t.2.2.1)[k]) ce0) := by simpa [Ty.sz] using hcelle 0 b_36
   clear hcelle hle
   have hlb : b < wr.heap.size := World.block_lt_of_cell? wr _ e0
   have i0 : (0 : Int) ≤ (k : Int) := by omega
   have i1 : (k : Int) < (List.length t.2.2.1 : Int) := by omega
   have HS : Hid (∀ W, Below wr.heap.size wr W → Below wr.heap.size wr W ∧ W.cell? ⟨w.heap.size, 0, none⟩ = some (.slice At0 (List.length t.1) ct0) ∧ W.cell? ⟨w.heap.size, 1, none⟩ = some (.slice At1 (List.length t.2.1) ct1) ∧ W.cell? ⟨w.heap.size, 2, none⟩ = some (.slice (some ⟨b, o, none⟩) (List.length t.2.2.1) ct2) ∧ W.cell? ⟨w.heap.size, 3, none⟩ = some (.slice At3 (List.length t.2.2.2) ct3) ∧ W.cell? ⟨b, o + k, none⟩ = some (.slice Ae0 (List.length (t.2.2.1)[k]) ce0)) := fun W hW => ⟨hW, (HC.out W (bel_trans hb hW)).1, (HC.out W (bel_trans hb hW)).2.1, (HC.out W (bel_trans hb hW)).2.2.1, (HC.out W (bel_trans hb hW)).2.2.2, (hW.cell (p := ⟨b, o + k, none⟩) hlb).trans e0⟩
   have hv0 : Below wr.heap.size wr wr := Below.refl _ _
   cases q4 : t.1.any (sameName (t.2.2.1)[k])
   ·have HZ := Lib.hid (show F = false from by rw [HF2.out, any_mem_true hlt (by unfold badAnchor; rw [q4]; rfl)]; simp)
    have q5 : ixf (sameName (t.2.2.1)[k]) t.1 = -1 := ixf_miss _ _ q4
    go_wp2_with fail
    refine wp_region_noPanic ?_
    refine wp_region_held_drew (S := (fun W => Below wr.heap.size wr W ∧ W.cell? ⟨w.heap.size, 0, none⟩ = some (.slice At0 (List.length t.1) ct0) ∧ W.cell? ⟨w.heap.size, 1, none⟩ = some (.slice At1 (List.length t.2.1) ct1) ∧ W.cell? ⟨w.heap.size, 2, none⟩ = some (.slice (some ⟨b, o, none⟩) (List.length t.2.2.1) ct2) ∧ W.cell? ⟨w.heap.size, 3, none⟩ = some (.slice At3 (List.length t.2.2.2) ct3) ∧ W.cell? ⟨b, o + k, none⟩ = some (.slice Ae0 (List.length (t.2.2.1)[k]) ce0))) b_35 ?_ (fun hHeld => ?_)
    ·exact HS.out _ b_4
    refine tkz4 0 1 2 3 ?_
    try simp only [layz]
    refine tkz3 4 5 6 ?_
    try simp only [layz]
    refine rz1 7 (fun K hK => ?_)
    go_simp
    go_at_call 80
    refine (C_spec_l9Find _ _ t.1 _ (t.2.2.1)[k] (Ty.rd_below (bel_trans hw b_4) tg0) (Ty.rd_below b_4 hrde')).mono ?_
    rw [q5]
    rintro e w3 ⟨rfl, hb3⟩
    refine hK.out _ _ (HS.out _ b_4) (fun hHeld => ?_)
    clear hK K
    try simp only [layz]
    refine tkz 8 ?_
    try simp only [layz]
    refine wpAnyH_done b_35 ?_ _
    refine NoPanic.normal ?_
    go_wp2
    go_ret
    exact ⟨ret_bool (by rw [HZ.out]), bel_trans hw b_4⟩
   ·have HZ := Lib.hid (show badAnchor t.1 (t.2.2.1)[k] = false from by unfold badAnchor; rw [q4]; rfl)
    obtain ⟨m, q5⟩ : ∃ m : Nat, ixf (sameName (t.2.2.1)[k]) t.1 = m := by
     have h1 := ixf_ge (sameName (t.2.2.1)[k]) t.1
     rw [q4] at h1
     have h2 : ixf (sameName (t.2.2.1)[k]) t.1 ≥ 0 := by simpa using h1
     exact ⟨(ixf (sameName (t.2.2.1)[k]) t.1).toNat, by omega⟩
    go_wp2_with fail
    refine wp_region_noPanic ?_
    refine wp_region_held_drew (S := (fun W => Below wr.heap.size wr W ∧ W.cell? ⟨w.heap.size, 0, none⟩ = some (.slice At0 (List.length t.1) ct0) ∧ W.cell? ⟨w.heap.size, 1, none⟩ = some (.slice At1 (List.length t.2.1) ct1) ∧ W.cell? ⟨w.heap.size, 2, none⟩ = some (.slice (some ⟨b, o, none⟩) (List.length t.2.2.1) ct2) ∧ W.cell? ⟨w.heap.size, 3, none⟩ = some (.slice At3 (List.length t.2.2.2) ct3) ∧ W.cell? ⟨b, o + k, none⟩ = some (.slice Ae0 (List.length (t.2.2.1)[k]) ce0))) b_35 ?_ (fun hHeld => ?_)
    ·exact HS.out _ b_4
    refine tkz4 0 1 2 3 ?_
    try simp only [layz]
    refine tkz3 4 5 6 ?_
    try simp only [layz]
    refine rz1 7 (fun K hK => ?_)
    go_simp
    go_at_call 80
    refine (C_spec_l9Find _ _ t.1 _ (t.2.2.1)[k] (Ty.rd_below (bel_trans hw b_4) tg0) (Ty.rd_below b_4 hrde')).mono ?_
    rw [q5]
    rintro e w3 ⟨rfl, hb3⟩
    refine hK.out _ _ (HS.out _ b_4) (fun hHeld => ?_)
    clear hK K
    try simp only [layz]
    refine tkz 8 ?_
    try simp only [layz]
    refine wpAnyH_done b_35 ?_ _
    refine NoPanic.normal ?_
    have hv3 : Below wr.heap.size wr w3 := b_4
    clear q4 q5
    go_wp2
    go_roundw
    case rel => exact ⟨k + 1, by omega, by go_num, by rw [HSX.out, HT.out, HZ.out]; rfl, bel_trans hb hv3⟩
    case measure => simp [intOf]; omega
  ·have HE : Hid (t.2.2.1.any (badAnchor t.1) = false) := by have := HT.out; rwa [List.take_of_length_le b_37] at this
   have HF3 := Lib.hid (show F = !(t.2.2.2.any badPaper) from by rw [HF2.out, HE.out]; rfl)
   obtain ⟨wo, hwo⟩ : ∃ wo, wo = wr := ⟨_, rfl⟩
   subst hwo
   go_wp2
   clear j0 j1 j2 j3 zw0
   go_loopw [4] (fun i wr => ∃ k : Nat, k ≤ List.length t.2.2.2 ∧ i = .int .i64 k ∧ (List.take k t.2.2.2).any badPaper = false ∧ Below WX.heap.size WX wr) (fun i _ => List.length t.2.2.2 - (intOf i).toNat)
   case atStart => exact ⟨0, by omega, by first | rfl | simp, by simp, hb⟩
   case round =>
    obtain ⟨k, hk, rfl, ht, hb⟩ := hrel
    have HT := Lib.hid ht
    clear ht
    have hw : Below w.heap.size w wr := bel_trans hvb hb
    obtain ⟨j0, j1, j2, j3⟩ := HC.out _ (hb)
    have zw0 : w.heap.size < wr.heap.size := by have := hb.size; omega
    by_cases hlt : k < List.length t.2.2.2
    ·have HSX := Lib.hid (any_take_succ badPaper t.2.2.2 hlt)
     obtain ⟨b, o, dsd, rfl, hld, hcelld, hrdd⟩ := Ty.rd_at (Ty.rd_below hw tg3) hlt
     have hrdd' := hrdd
     obtain ⟨Ad0, cd0, Ad1, cd1, Ad2, cd2, rfl, dg0, dg1, dg2, dg3, dg4⟩ := rd_Data hrdd
     have e0 : wr.cell? ⟨b, o + k * 5, none⟩ = some (.slice Ad0 (List.length (t.2.2.2)[k].1) cd0) := by simpa [Ty.sz] using hcelld 0 b_36
     have e1 : wr.cell? ⟨b, o + k * 5 + 1, none⟩ = some (.slice Ad1 (List.length (t.2.2.2)[k].2.1) cd1) := by simpa [Ty.sz] using hcelld 1 b_36
     have e2 : wr.cell? ⟨b, o + k * 5 + 2, none⟩ = some (.slice Ad2 (List.length (t.2.2.2)[k].2.2.1) cd2) := by simpa [Ty.sz] using hcelld 2 b_36
     have e3 : wr.cell? ⟨b, o + k * 5 + 3, none⟩ = some (.int .i64 (t.2.2.2)[k].2.2.2.1) := by simpa [Ty.sz] using hcelld 3 b_36
     have e4 : wr.cell? ⟨b, o + k * 5 + 4, none⟩ = some (.int .i64 (t.2.2.2)[k].2.2.2.2) := by simpa [Ty.sz] using hcelld 4 b_36
     clear hcelld hld
     have i0 : (0 : Int) ≤ (k : Int) := by omega
     have i1 : (k : Int) < (List.length t.2.2.2 : Int) := by omega
     go_wp2_with fail
     refine (C_spec_ValidData _ _ (t.2.2.2)[k] hrdd' (Ty.bulk_at s0d hlt)).mono ?_
     rintro e w3 ⟨rfl, hb3⟩
     cases q4 : f_ValidData (t.2.2.2)[k]
     ·have HZ := Lib.hid (show F = false from by rw [HF3.out, any_mem_true hlt (by unfold badPaper; rw [q4]; rfl)]; rfl)
      go_wp2
      go_ret
      exact ⟨ret_bool (by rw [HZ.out]), bel_trans hw hb3⟩
     ·have HZ := Lib.hid (show badPaper (t.2.2.2)[k] = false from by unfold badPaper; rw [q4]; rfl)
      go_wp2
      go_roundw
      case rel => exact ⟨k + 1, by omega, by go_num, by rw [HSX.out, HT.out, HZ.out]; rfl, bel_trans hb hb3⟩
      case measure => simp [intOf]; omega
    ·have HE2 : Hid (t.2.2.2.any badPaper = false) := by have := HT.out; rwa [List.take_of_length_le b_37] at this
     go_wp2
     go_ret
     exact ⟨ret_bool (by rw [HF3.out, HE2.out]; rfl), hw⟩
end Go.Proofs.YtldgbnlcnlfmeaaGreat
