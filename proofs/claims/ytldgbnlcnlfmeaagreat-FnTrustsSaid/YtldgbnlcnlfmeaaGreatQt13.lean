/- Texts of this claim, merged by a program: Anc Tcp Rwd. -/
import Derived.Test.YtldgbnlcnlfmeaaGreatQtP
import Derived.Test.YtldgbnlcnlfmeaaGreatQt9
import Derived.Test.YtldgbnlcnlfmeaaGreatQt2
import Derived.StillTailTactics
import Derived.Test.YtldgbnlcnlfmeaaGreatQt11
import Derived.Test.YtldgbnlcnlfmeaaGreatQt12
import Derived.Test.YtldgbnlcnlfmeaaGreatQt4
import Derived.Laws.CopyRow
import Derived.Maps.AppendAt
namespace Go.Proofs.YtldgbnlcnlfmeaaGreat
open Go.RowKit
set_option linter.unusedVariables false
set_option linter.unusedSimpArgs false
def nameIs (n a : List (List UInt8)) : Bool := decide (a = n)
def f_IsAnchor (t : tTrustPolicy.D) (n : List (List UInt8)) : Bool := List.any t.2.2.1 (nameIs n)
set_option maxHeartbeats 1000000 in
theorem C_spec_IsAnchor (w : World) (cs1 : List Value) (t : tTrustPolicy.D) (cs2 : List Value) (n : List (List UInt8)) (h1 : tTrustPolicy.rd w cs1 t) (h2 : (Ty.sl .str).rd w cs2 n) (s0 : Ty.bulk tTrustPolicy t ≤ 1048576) (s1 : Ty.bulk (.sl .str) n ≤ 1048576) :
  Calls Tryz.prog 24 #[.agg cs1.toArray, .agg cs2.toArray] w (RetB w (f_IsAnchor t n)) := by
 obtain ⟨At0, ct0, At1, ct1, At2, ct2, At3, ct3, rfl, tg0, tg1, tg2, tg3⟩ := rd_TrustPolicy h1
 obtain ⟨An0, cn0, rfl⟩ := Ty.rd_slv h2
 have HF := Lib.hid (show f_IsAnchor t n = List.any t.2.2.1 (nameIs n) from rfl)
 have kb0_0 : ((w.alloc (.cells #[.slice At0 (List.length t.1) ct0, .slice At1 (List.length t.2.1) ct1, .slice At2 (List.length t.2.2.1) ct2, .slice At3 (List.length t.2.2.2) ct3] 29)).alloc (.cells #[.slice An0 (List.length n) cn0] 32)).cell? ⟨w.heap.size, 0, none⟩ = some (.slice At0 (List.length t.1) ct0) := ((World.cell?_alloc_lt _ _ _ b_30).trans (cell_new w _ _ 0 b_27))
 have kb0_1 : ((w.alloc (.cells #[.slice At0 (List.length t.1) ct0, .slice At1 (List.length t.2.1) ct1, .slice At2 (List.length t.2.2.1) ct2, .slice At3 (List.length t.2.2.2) ct3] 29)).alloc (.cells #[.slice An0 (List.length n) cn0] 32)).cell? ⟨w.heap.size, 1, none⟩ = some (.slice At1 (List.length t.2.1) ct1) := ((World.cell?_alloc_lt _ _ _ b_30).trans (cell_new w _ _ 1 b_27))
 have kb0_2 : ((w.alloc (.cells #[.slice At0 (List.length t.1) ct0, .slice At1 (List.length t.2.1) ct1, .slice At2 (List.length t.2.2.1) ct2, .slice At3 (List.length t.2.2.2) ct3] 29)).alloc (.cells #[.slice An0 (List.length n) cn0] 32)).cell? ⟨w.heap.size, 2, none⟩ = some (.slice At2 (List.length t.2.2.1) ct2) := ((World.cell?_alloc_lt _ _ _ b_30).trans (cell_new w _ _ 2 b_27))
 have kb0_3 : ((w.alloc (.cells #[.slice At0 (List.length t.1) ct0, .slice At1 (List.length t.2.1) ct1, .slice At2 (List.length t.2.2.1) ct2, .slice At3 (List.length t.2.2.2) ct3] 29)).alloc (.cells #[.slice An0 (List.length n) cn0] 32)).cell? ⟨w.heap.size, 3, none⟩ = some (.slice At3 (List.length t.2.2.2) ct3) := ((World.cell?_alloc_lt _ _ _ b_30).trans (cell_new w _ _ 3 b_27))
 have kb1_0 : ((w.alloc (.cells #[.slice At0 (List.length t.1) ct0, .slice At1 (List.length t.2.1) ct1, .slice At2 (List.length t.2.2.1) ct2, .slice At3 (List.length t.2.2.2) ct3] 29)).alloc (.cells #[.slice An0 (List.length n) cn0] 32)).cell? ⟨w.heap.size + 1, 0, none⟩ = some (.slice An0 (List.length n) cn0) := (cell_new (w.alloc (.cells #[.slice At0 (List.length t.1) ct0, .slice At1 (List.length t.2.1) ct1, .slice At2 (List.length t.2.2.1) ct2, .slice At3 (List.length t.2.2.2) ct3] 29)) _ _ 0 b_27)
 have hvb : Below w.heap.size w ((w.alloc (.cells #[.slice At0 (List.length t.1) ct0, .slice At1 (List.length t.2.1) ct1, .slice At2 (List.length t.2.2.1) ct2, .slice At3 (List.length t.2.2.2) ct3] 29)).alloc (.cells #[.slice An0 (List.length n) cn0] 32)) := b_10
 have zb0 := Lib.hid (show ((w.alloc (.cells #[.slice At0 (List.length t.1) ct0, .slice At1 (List.length t.2.1) ct1, .slice At2 (List.length t.2.2.1) ct2, .slice At3 (List.length t.2.2.2) ct3] 29)).alloc (.cells #[.slice An0 (List.length n) cn0] 32)).heap.size = w.heap.size + 1 + 1 from by simp only [World.size_alloc])
 have zb : w.heap.size + 1 < ((w.alloc (.cells #[.slice At0 (List.length t.1) ct0, .slice At1 (List.length t.2.1) ct1, .slice At2 (List.length t.2.2.1) ct2, .slice At3 (List.length t.2.2.2) ct3] 29)).alloc (.cells #[.slice An0 (List.length n) cn0] 32)).heap.size := by simp only [World.size_alloc]; omega
 obtain ⟨_, _, _, _, _, m9⟩ := Ty.rd_sl tg2
 go_enter Tryz.func24, Tryz.ntmps24
 go_wp2
 generalize ((w.alloc (.cells #[.slice At0 (List.length t.1) ct0, .slice At1 (List.length t.2.1) ct1, .slice At2 (List.length t.2.2.1) ct2, .slice At3 (List.length t.2.2.2) ct3] 29)).alloc (.cells #[.slice An0 (List.length n) cn0] 32)) = WX at kb0_0 kb0_1 kb0_2 kb0_3 kb1_0 hvb zb zb0 ⊢
 have HC : Hid (∀ V, Below WX.heap.size WX V → V.cell? ⟨w.heap.size, 0, none⟩ = some (.slice At0 (List.length t.1) ct0) ∧ V.cell? ⟨w.heap.size, 1, none⟩ = some (.slice At1 (List.length t.2.1) ct1) ∧ V.cell? ⟨w.heap.size, 2, none⟩ = some (.slice At2 (List.length t.2.2.1) ct2) ∧ V.cell? ⟨w.heap.size, 3, none⟩ = some (.slice At3 (List.length t.2.2.2) ct3) ∧ V.cell? ⟨w.heap.size + 1, 0, none⟩ = some (.slice An0 (List.length n) cn0)) := fun V hW => ⟨(hW.cell (p := ⟨w.heap.size, 0, none⟩) b_34).trans kb0_0, (hW.cell (p := ⟨w.heap.size, 1, none⟩) b_34).trans kb0_1, (hW.cell (p := ⟨w.heap.size, 2, none⟩) b_34).trans kb0_2, (hW.cell (p := ⟨w.heap.size, 3, none⟩) b_34).trans kb0_3, (hW.cell (p := ⟨w.heap.size + 1, 0, none⟩) b_34).trans kb1_0⟩
 clear kb0_0 kb0_1 kb0_2 kb0_3 kb1_0
 go_loopw [5] (fun i wr => ∃ k : Nat, k ≤ List.length t.2.2.1 ∧ i = .int .i64 k ∧ (List.take k t.2.2.1).any (nameIs n) = false ∧ Below WX.heap.size WX wr) (fun i _ => List.length t.2.2.1 - (intOf i).toNat)
 case atStart => exact ⟨0, by omega, rfl, by first | rfl | simp, Below.refl _ _⟩
 case round =>
  obtain ⟨k, hk, rfl, ht, hb⟩ := hrel
  have hw : Below w.heap.size w wr := bel_trans hvb hb
  have HT := Lib.hid ht
  clear ht
  obtain ⟨j0, j1, j2, j3, j4⟩ := HC.out _ (hb)
  have zw : w.heap.size + 1 < wr.heap.size := by have := hb.size; omega
  by_cases hlt : k < List.length t.2.2.1
  ·have HS := Lib.hid (any_take_succ (nameIs n) t.2.2.1 hlt)
   obtain ⟨b, o, dsa, hAa, hla, hcella, hrda⟩ := Ty.rd_at (Ty.rd_below hw tg2) hlt
   subst hAa
   obtain ⟨Aa0, ca0, rfl⟩ := Ty.rd_slv hrda
   have e0 : wr.cell? ⟨b, o + k, none⟩ = some (.slice Aa0 (List.length (t.2.2.1)[k]) ca0) := by simpa [Ty.sz] using hcella 0 b_36
   clear hcella hla
   have i0 : (0 : Int) ≤ (k : Int) := by omega
   have i1 : (k : Int) < (List.length t.2.2.1 : Int) := by omega
   go_wp2_with fail
   set_option maxRecDepth 100000 in go_still_tail 6, b_35
   go_wp2_with fail
   refine (C_spec_EqualNames _ _ _ _ _ (Ty.rd_below b_10 hrda) (Ty.rd_below (bel_drew hw) h2)).mono ?_
   rintro e w1 ⟨rfl, hb1⟩
   have hb2 : Below WX.heap.size WX w1 := bel_trans (bel_drew hb) hb1
   cases hq : decide ((t.2.2.1)[k] = n)
   ·have HQ := Lib.hid (show nameIs n (t.2.2.1)[k] = false from hq)
    clear hq
    go_wp2
    go_roundw
    case rel => exact ⟨k + 1, by omega, by go_num, by rw [HS.out, HT.out, HQ.out]; rfl, hb2⟩
    case measure => simp [intOf]; omega
   ·have HQ := Lib.hid (any_true_of (nameIs n) t.2.2.1 hlt hq)
    clear hq
    go_wp2
    go_ret
    exact ⟨ret_bool (by rw [HF.out, HQ.out]), bel_trans hvb hb2⟩
  ·have HE : Hid (List.any t.2.2.1 (nameIs n) = false) := by have := HT.out; rwa [List.take_of_length_le b_37] at this
   go_wp2
   go_ret
   exact ⟨ret_bool (by rw [HF.out, HE.out]), hw⟩
set_option maxHeartbeats 1000000 in
theorem C_impl_IsAnchor1 (W : World) (ds : List Value) (x n : List (List UInt8)) (A2 : Option Addr) (c2 b : Nat) (h1 : Ty.rd W (.sl .str) ds x) (k0 : W.cell? ⟨b, 0, none⟩ = some (.slice A2 n.length c2)) (h2 : (Ty.sl .str).rd W [.slice A2 n.length c2] n) :
  Calls Tryz.prog 82 #[.agg ds.toArray, .pointer (some ⟨b, 0, none⟩)] W (RetB W (nameIs n x)) := by
 obtain ⟨A1, c1, rfl⟩ := Ty.rd_slv h1
 have hlt : b < W.heap.size := World.block_lt_of_cell? W _ k0
 go_enter Tryz.func82, Tryz.ntmps82
 go_wp2_with fail
 refine (C_impl_EqualNames _ _ _ _ _ (Ty.rd_below b_10 h1) (Ty.rd_below b_10 h2)).mono ?_
 rintro e w1 ⟨rfl, hb1⟩
 go_wp2
 go_ret
 exact ⟨rfl, b_4⟩
set_option maxHeartbeats 1000000 in
theorem C_impl_IsAnchor (w : World) (cs1 : List Value) (t : tTrustPolicy.D) (cs2 : List Value) (n : List (List UInt8)) (h1 : tTrustPolicy.rd w cs1 t) (h2 : (Ty.sl .str).rd w cs2 n) (s0 : Ty.bulk tTrustPolicy t ≤ 1048576) (s1 : Ty.bulk (.sl .str) n ≤ 1048576) :
  Calls Tryz.prog 23 #[.agg cs1.toArray, .agg cs2.toArray] w (RetB w (f_IsAnchor t n)) := by
 obtain ⟨At0, ct0, At1, ct1, At2, ct2, At3, ct3, rfl, tg0, tg1, tg2, tg3⟩ := rd_TrustPolicy h1
 obtain ⟨An0, cn0, rfl⟩ := Ty.rd_slv h2
 have HF := Lib.hid (show f_IsAnchor t n = List.any t.2.2.1 (nameIs n) from rfl)
 have kb0_0 : ((w.alloc (.cells #[.slice At0 (List.length t.1) ct0, .slice At1 (List.length t.2.1) ct1, .slice At2 (List.length t.2.2.1) ct2, .slice At3 (List.length t.2.2.2) ct3] 29)).alloc (.cells #[.slice An0 (List.length n) cn0] 32)).cell? ⟨w.heap.size, 0, none⟩ = some (.slice At0 (List.length t.1) ct0) := ((World.cell?_alloc_lt _ _ _ b_30).trans (cell_new w _ _ 0 b_27))
 have kb0_1 : ((w.alloc (.cells #[.slice At0 (List.length t.1) ct0, .slice At1 (List.length t.2.1) ct1, .slice At2 (List.length t.2.2.1) ct2, .slice At3 (List.length t.2.2.2) ct3] 29)).alloc (.cells #[.slice An0 (List.length n) cn0] 32)).cell? ⟨w.heap.size, 1, none⟩ = some (.slice At1 (List.length t.2.1) ct1) := ((World.cell?_alloc_lt _ _ _ b_30).trans (cell_new w _ _ 1 b_27))
 have kb0_2 : ((w.alloc (.cells #[.slice At0 (List.length t.1) ct0, .slice At1 (List.length t.2.1) ct1, .slice At2 (List.length t.2.2.1) ct2, .slice At3 (List.length t.2.2.2) ct3] 29)).alloc (.cells #[.slice An0 (List.length n) cn0] 32)).cell? ⟨w.heap.size, 2, none⟩ = some (.slice At2 (List.length t.2.2.1) ct2) := ((World.cell?_alloc_lt _ _ _ b_30).trans (cell_new w _ _ 2 b_27))
 have kb0_3 : ((w.alloc (.cells #[.slice At0 (List.length t.1) ct0, .slice At1 (List.length t.2.1) ct1, .slice At2 (List.length t.2.2.1) ct2, .slice At3 (List.length t.2.2.2) ct3] 29)).alloc (.cells #[.slice An0 (List.length n) cn0] 32)).cell? ⟨w.heap.size, 3, none⟩ = some (.slice At3 (List.length t.2.2.2) ct3) := ((World.cell?_alloc_lt _ _ _ b_30).trans (cell_new w _ _ 3 b_27))
 have kb1_0 : ((w.alloc (.cells #[.slice At0 (List.length t.1) ct0, .slice At1 (List.length t.2.1) ct1, .slice At2 (List.length t.2.2.1) ct2, .slice At3 (List.length t.2.2.2) ct3] 29)).alloc (.cells #[.slice An0 (List.length n) cn0] 32)).cell? ⟨w.heap.size + 1, 0, none⟩ = some (.slice An0 (List.length n) cn0) := (cell_new (w.alloc (.cells #[.slice At0 (List.length t.1) ct0, .slice At1 (List.length t.2.1) ct1, .slice At2 (List.length t.2.2.1) ct2, .slice At3 (List.length t.2.2.2) ct3] 29)) _ _ 0 b_27)
 have hvb : Below w.heap.size w ((w.alloc (.cells #[.slice At0 (List.length t.1) ct0, .slice At1 (List.length t.2.1) ct1, .slice At2 (List.length t.2.2.1) ct2, .slice At3 (List.length t.2.2.2) ct3] 29)).alloc (.cells #[.slice An0 (List.length n) cn0] 32)) := b_10
 have zb0 := Lib.hid (show ((w.alloc (.cells #[.slice At0 (List.length t.1) ct0, .slice At1 (List.length t.2.1) ct1, .slice At2 (List.length t.2.2.1) ct2, .slice At3 (List.length t.2.2.2) ct3] 29)).alloc (.cells #[.slice An0 (List.length n) cn0] 32)).heap.size = w.heap.size + 1 + 1 from by simp only [World.size_alloc])
 have zb : w.heap.size + 1 < ((w.alloc (.cells #[.slice At0 (List.length t.1) ct0, .slice At1 (List.length t.2.1) ct1, .slice At2 (List.length t.2.2.1) ct2, .slice At3 (List.length t.2.2.2) ct3] 29)).alloc (.cells #[.slice An0 (List.length n) cn0] 32)).heap.size := by simp only [World.size_alloc]; omega
 have hmf := hmf_ (P := Tryz.prog)
 go_enter Tryz.func23, Tryz.ntmps23
 go_wp2_with fail
 generalize ((w.alloc (.cells #[.slice At0 (List.length t.1) ct0, .slice At1 (List.length t.2.1) ct1, .slice At2 (List.length t.2.2.1) ct2, .slice At3 (List.length t.2.2.2) ct3] 29)).alloc (.cells #[.slice An0 (List.length n) cn0] 32)) = WX at kb0_0 kb0_1 kb0_2 kb0_3 kb1_0 hvb zb zb0 ⊢
 have HC : Hid (∀ V, Below WX.heap.size WX V → V.cell? ⟨w.heap.size, 0, none⟩ = some (.slice At0 (List.length t.1) ct0) ∧ V.cell? ⟨w.heap.size, 1, none⟩ = some (.slice At1 (List.length t.2.1) ct1) ∧ V.cell? ⟨w.heap.size, 2, none⟩ = some (.slice At2 (List.length t.2.2.1) ct2) ∧ V.cell? ⟨w.heap.size, 3, none⟩ = some (.slice At3 (List.length t.2.2.2) ct3) ∧ V.cell? ⟨w.heap.size + 1, 0, none⟩ = some (.slice An0 (List.length n) cn0)) := fun V hW => ⟨(hW.cell (p := ⟨w.heap.size, 0, none⟩) b_34).trans kb0_0, (hW.cell (p := ⟨w.heap.size, 1, none⟩) b_34).trans kb0_1, (hW.cell (p := ⟨w.heap.size, 2, none⟩) b_34).trans kb0_2, (hW.cell (p := ⟨w.heap.size, 3, none⟩) b_34).trans kb0_3, (hW.cell (p := ⟨w.heap.size + 1, 0, none⟩) b_34).trans kb1_0⟩
 clear kb0_0 kb0_1 kb0_2 kb0_3 kb1_0
 refine (C_ContainsFunc_Name _ _ t.2.2.1 (nameIs n) 82 #[.pointer (some ⟨w.heap.size + 1, 0, none⟩)] (enters_of Tryz.func82 b_35 rfl) (Ty.rd_below hvb tg2) (fun W ds d hd hr hW => C_impl_IsAnchor1 W ds d n _ _ (w.heap.size + 1) hr (HC.out W hW).2.2.2.2 (Ty.rd_below (bel_trans hvb hW) h2))).mono ?_
 rintro e w1 ⟨rfl, hb1⟩
 go_wp2
 go_ret
 exact ⟨rfl, bel_trans hvb hb1⟩
def tcOk (t : tTrustPolicy.D) (x : Ty.D tData) : Bool := f_VerifySignature t.1 x && f_Allowed t.2.1 x.1 x.2.2.1
def certAt (t : tTrustPolicy.D) (n : List (List UInt8)) (now : Int) : Option (Ty.D tData) := if f_FindCertificate t n now < 0 then none else t.2.2.2[(f_FindCertificate t n now).toNat]?
def tcGo (t : tTrustPolicy.D) (now : Int) : Nat → Ty.D tData → List (List (List UInt8)) → List (List (List UInt8)) × Bool
 | 0, _, _ => ([], false)
 | n + 1, x, c => if tcOk t x = false then ([], false) else if f_IsAnchor t x.2.2.1 = true then (c ++ [x.2.2.1], true) else match certAt t x.2.2.1 now with
  | none => ([], false)
  | some y => tcGo t now n y (c ++ [x.2.2.1])
def f0_TrustChain (t : tTrustPolicy.D) (x : Ty.D tData) (now : Int) : List (List (List UInt8)) := (tcGo t now 4 x []).1
def f1_TrustChain (t : tTrustPolicy.D) (x : Ty.D tData) (now : Int) : Bool := (tcGo t now 4 x []).2
theorem tcGo_bad {t : tTrustPolicy.D} {now : Int} {n : Nat} {x : Ty.D tData} {c : List (List (List UInt8))} (h : tcOk t x = false) : tcGo t now n x c = ([], false) := by
 cases n with
 | zero => rfl
 | succ n => unfold tcGo; rw [if_pos h]
theorem tcGo_anchor {t : tTrustPolicy.D} {now : Int} {n : Nat} {x : Ty.D tData} {c : List (List (List UInt8))} (h : tcOk t x = true) (ha : f_IsAnchor t x.2.2.1 = true) : tcGo t now (n + 1) x c = (c ++ [x.2.2.1], true) := by
 unfold tcGo; rw [if_neg (by rw [h]; simp), if_pos ha]
theorem tcGo_miss {t : tTrustPolicy.D} {now : Int} {n : Nat} {x : Ty.D tData} {c : List (List (List UInt8))} (ha : f_IsAnchor t x.2.2.1 = false) (hf : f_FindCertificate t x.2.2.1 now = -1) : tcGo t now n x c = ([], false) := by
 cases n with
 | zero => rfl
 | succ n =>
  unfold tcGo
  split
  ·rfl
  ·rw [if_neg (by rw [ha]; simp)]
   have : certAt t x.2.2.1 now = none := by unfold certAt; rw [hf]; rfl
   rw [this]
theorem tcGo_next {t : tTrustPolicy.D} {now : Int} {n k : Nat} {x : Ty.D tData} {c : List (List (List UInt8))} (h : tcOk t x = true) (ha : f_IsAnchor t x.2.2.1 = false) (hk : k < List.length t.2.2.2) (hf : f_FindCertificate t x.2.2.1 now = (k : Int)) : tcGo t now (n + 1) x c = tcGo t now n ((t.2.2.2)[k]) (c ++ [x.2.2.1]) := by
 have : certAt t x.2.2.1 now = some ((t.2.2.2)[k]) := by
  unfold certAt; rw [hf, if_neg b_37, Int.toNat_natCast, List.getElem?_eq_getElem hk]
 show (if tcOk t x = false then ([], false) else if f_IsAnchor t x.2.2.1 = true then (c ++ [x.2.2.1], true) else match certAt t x.2.2.1 now with
  | none => ([], false)
  | some y => tcGo t now n y (c ++ [x.2.2.1])) = _
 rw [if_neg (by rw [h]; simp), if_neg (by rw [ha]; simp), this]
theorem find_cases (t : tTrustPolicy.D) (n : List (List UInt8)) (now : Int) : f_FindCertificate t n now = -1 ∨ ∃ k : Nat, k < List.length t.2.2.2 ∧ f_FindCertificate t n now = (k : Int) := by
 unfold f_FindCertificate
 split
 ·exact .inl rfl
 ·rcases ixf_lt (certOk t n now) t.2.2.2 with h | ⟨h1, h2⟩
  ·exact .inl h
  ·exact .inr ⟨(ixf (certOk t n now) t.2.2.2).toNat, by omega, by omega⟩
theorem data_bulk_key {x : tData.D} {n : Nat} (s : Ty.bulk tData x ≤ n) : Ty.bulk (.sl .str) x.1 ≤ n ∧ Ty.bulk (.sl .str) x.2.2.1 ≤ n := by
 have h1 : Ty.bulk (.sl .str) x.1 + (Ty.bulk (.sl .byte) x.2.1 + (Ty.bulk (.sl .str) x.2.2.1 + (0 + 0))) ≤ n := s
 exact ⟨by omega, by omega⟩
theorem DRow.toF {e : Ty} {w : World} {base : Nat} {te : TypeId} {v : Value} {x : List e.D} (h : DRow e w base te v x) : ∃ fp, DRowF e w base te v x fp ∧ FrI base w.heap.size fp := by
 obtain ⟨css, fs, h1, h2, h3, h4⟩ := h
 exact ⟨_, ⟨css, fs, h1, h2, rfl, h4⟩, h3⟩
theorem DRowF.parts {e : Ty} {w : World} {base : Nat} {te : TypeId} {v : Value} {x : List e.D} {fp : List Nat} (h : DRowF e w base te v x fp) (h0 : 0 < x.length) :
  ∃ (g cap : Nat) (cur : Array Value) (css : Nat → List Value) (fs : Nat → List Nat), v = .slice (some ⟨g, 0, none⟩) x.length cap ∧ base ≤ g ∧ Blk w g te cur ∧ x.length ≤ cap ∧ cap ≤ maxLen ∧ cur.size = cap * e.sz ∧ cur.toList.take (x.length * e.sz) = (List.range x.length).flatMap css ∧
   (∀ i (h : i < x.length), (css i).length = e.sz ∧ e.ow w (css i) x[i] (fs i)) ∧ fp = (List.range x.length).flatMap fs ∧ g ∉ fp := by
 obtain ⟨css, fs, h1, h2, h3, h4⟩ := h
 rcases h1.2 with ⟨_, hn⟩ | ⟨g, cap, cur, rfl, hbg, hg, hnc, hcm, hcs, htake⟩
 ·omega
 ·exact ⟨g, cap, cur, css, fs, rfl, hbg, hg, hnc, hcm, hcs, htake, h2, h3, h4 g rfl⟩
theorem row_cell {e : Ty} {w : World} {x : List e.D} {g : Nat} {te : TypeId} {cur : Array Value} {css : Nat → List Value} (hB : Blk w g te cur) (htake : cur.toList.take (x.length * e.sz) = (List.range x.length).flatMap css) (hcs : ∀ i, i < x.length → (css i).length = e.sz) {i j : Nat} (hi : i < x.length) (hj : j < e.sz) :
  w.cell? ⟨g, i * e.sz + j, none⟩ = (css i)[j]? := by
 have hlt : i * e.sz + j < x.length * e.sz := by
  have h5 : (i + 1) * e.sz ≤ x.length * e.sz := Nat.mul_le_mul_right _ hi
  rw [Nat.succ_mul] at h5; omega
 rw [hB.cell, ← Array.getElem?_toList, ← fmr_get css e.sz x.length hcs i j hi hj, ← htake, List.getElem?_take_of_lt hlt]
theorem SrcF.head {e : Ty} {w : World} {x : List e.D} {g cap k : Nat} {te : TypeId} {cur : Array Value} {css : Nat → List Value} {fs : Nat → List Nat} (hB : Blk w g te cur) (htake : cur.toList.take (x.length * e.sz) = (List.range x.length).flatMap css)
  (h2 : ∀ i (h : i < x.length), (css i).length = e.sz ∧ e.ow w (css i) x[i] (fs i)) (hk : k ≤ x.length) : SrcF e w (.slice (some ⟨g, 0, none⟩) k cap) (x.take k) ((List.range k).flatMap fs) := by
 have hl : (x.take k).length = k := by rw [List.length_take]; omega
 refine ⟨_, cap, fs, by rw [hl], by rw [hl], fun h0 => ⟨g, 0, rfl, fun i hi => ?_⟩⟩
 rw [hl] at hi
 refine ⟨css i, (h2 i b_37).1, fun j hj => ?_, ?_⟩
 ·rw [Nat.zero_add]; exact row_cell hB htake (fun i hi => (h2 i hi).1) b_37 hj
 ·rw [List.getElem_take]; exact (h2 i b_37).2
theorem SrcF.tail {e : Ty} {w : World} {x : List e.D} {g c k : Nat} {te : TypeId} {cur : Array Value} {css : Nat → List Value} {fs : Nat → List Nat} {A : Addr} (hB : Blk w g te cur) (htake : cur.toList.take (x.length * e.sz) = (List.range x.length).flatMap css)
  (h2 : ∀ i (h : i < x.length), (css i).length = e.sz ∧ e.ow w (css i) x[i] (fs i)) (hA : k < x.length → A = ⟨g, k * e.sz, none⟩) : SrcF e w (.slice (some A) (x.length - k) c) (x.drop k) ((List.range (x.length - k)).flatMap (fun i => fs (k + i))) := by
 have hl : (x.drop k).length = x.length - k := List.length_drop
 refine ⟨_, c, fun i => fs (k + i), by rw [hl], by rw [hl], fun h0 => ⟨g, k * e.sz, by rw [hA b_37], fun i hi => ?_⟩⟩
 rw [hl] at hi
 refine ⟨css (k + i), (h2 _ b_37).1, fun j hj => ?_, ?_⟩
 ·rw [← Nat.add_mul]; exact row_cell hB htake (fun i hi => (h2 i hi).1) b_37 hj
 ·rw [List.getElem_drop]; exact (h2 _ b_37).2
theorem DRow.keep {e : Ty} {w w' : World} {base : Nat} {te : TypeId} {v : Value} {x : List e.D} (h : DRow e w base te v x) (hsz : w.heap.size ≤ w'.heap.size) (hk : ∀ b, base ≤ b → b < w.heap.size → w'.heap[b]? = w.heap[b]?) : DRow e w' base te v x := by
 have hbl := h.block
 obtain ⟨css, fs, h1, h2, h3, h4⟩ := h
 refine ⟨css, fs, ⟨h1.1, ?_⟩, fun i hi => ⟨(h2 i hi).1, Ty.ow_keep (fun b hb' => ?_) (h2 i hi).2⟩, h3.mono (Nat.le_refl _) hsz, h4⟩
 ·rcases h1.2 with hn | ⟨g, cap, cur, rfl, hbg, hgg, rest⟩
  ·exact .inl hn
  ·exact .inr ⟨g, cap, cur, rfl, hbg, (hk g hbg (hbl g rfl).2).trans hgg, rest⟩
 ·have := h3.2 b (List.mem_flatMap.2 ⟨i, List.mem_range.2 hi, hb'⟩)
  exact hk b this.1 this.2
theorem grow_blk {w0 w w' : World} {row : Option Nat} {g : Nat} {t : TypeId} {cs : Array Value} (hb : Below w0.heap.size w0 w) (hg : w.grownBy w' row) (h : Blk w0 g t cs) (hn : some g ≠ row) : Blk w' g t cs := (h.below hb h.lt).grown hg hn
theorem grow_bel {w0 w w' : World} {row : Option Nat} (h : Below w0.heap.size w0 w) (hg : w.grownBy w' row) (hrow : ∀ g, row = some g → w0.heap.size ≤ g) : Below w0.heap.size w0 w' := bel_grown h h.size hg hrow
theorem DRow.far {e : Ty} {w : World} {base : Nat} {te : TypeId} {v : Value} {x : List e.D} (h : DRow e w base te v x) {p : Addr} (hp : p.block < base) (u : Value) : DRow e (w.setCell p u) base te v x :=
 h.keep b_26 (fun b hb _ => Below.heap_setCell w p u b b_37)
end Go.Proofs.YtldgbnlcnlfmeaaGreat
