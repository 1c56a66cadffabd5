/- Texts of this claim, merged by a program: Fct. -/
import Derived.Test.YtldgbnlcnlfmeaaGreatQtP
import Derived.Test.YtldgbnlcnlfmeaaGreatQt9
import Derived.Test.YtldgbnlcnlfmeaaGreatQt1
import Derived.Test.YtldgbnlcnlfmeaaGreatQt8
import Derived.Test.YtldgbnlcnlfmeaaGreatQt6
import Derived.Test.YtldgbnlcnlfmeaaGreatQt2
namespace Go.Proofs.YtldgbnlcnlfmeaaGreat
open Go.RowKit
set_option linter.unusedVariables false
set_option linter.unusedSimpArgs false
def certOk (t : tTrustPolicy.D) (n : List (List UInt8)) (now : Int) (x : Ty.D tData) : Bool := decide (x.1 = n) && (f_FreshAt x now && (f_VerifySignature t.1 x && decide (x.2.1 = f_KeyDigest t.1 n)))
def f_FindCertificate (t : tTrustPolicy.D) (n : List (List UInt8)) (now : Int) : Int := if f_SecretOf t.1 n = 0 then -1 else ixf (certOk t n now) t.2.2.2
theorem trust_parts {t : tTrustPolicy.D} (s : Ty.bulk tTrustPolicy t ≤ 1048576) : Ty.bulk (.sl tKey) t.1 ≤ 1048576 ∧ Ty.bulk (.sl tRule) t.2.1 ≤ 1048576 ∧ Ty.bulk (.sl (.sl .str)) t.2.2.1 ≤ 1048576 ∧ Ty.bulk (.sl tData) t.2.2.2 ≤ 1048576 := by
 have h1 : Ty.bulk (.sl tKey) t.1 + (Ty.bulk (.sl tRule) t.2.1 + (Ty.bulk (.sl (.sl .str)) t.2.2.1 + Ty.bulk (.sl tData) t.2.2.2)) ≤ 1048576 := s
 exact ⟨by omega, by omega, by omega, by omega⟩
set_option maxRecDepth 100000 in
set_option maxHeartbeats 2000000 in
theorem C_impl_FindCertificate1 (W0 : World) (ds : List Value) (x : Ty.D tData) (t : tTrustPolicy.D) (n : List (List UInt8)) (now : Int) (An Ak : Option Addr) (cn ck bn bo bt : Nat) (hx : tData.rd W0 ds x)
  (kn : W0.cell? ⟨bn, 0, none⟩ = some (.slice An n.length cn)) (ko : W0.cell? ⟨bo, 0, none⟩ = some (.int .i64 now)) (kt : W0.cell? ⟨bt, 0, none⟩ = some (.slice Ak (List.length t.1) ck))
  (hn : (Ty.sl .str).rd W0 [.slice An n.length cn] n) (hk : (Ty.sl tKey).rd W0 [.slice Ak (List.length t.1) ck] t.1) (sx : Ty.bulk tData x ≤ 1048576) (s0a : Ty.bulk (.sl tKey) t.1 ≤ 1048576) (s1 : Ty.bulk (.sl .str) n ≤ 1048576) (i2 : -9223372036854775808 ≤ now ∧ now ≤ 9223372036854775807) :
  Calls Tryz.prog 67 #[.agg ds.toArray, .pointer (some ⟨bn, 0, none⟩), .pointer (some ⟨bo, 0, none⟩), .pointer (some ⟨bt, 0, none⟩)] W0 (RetB W0 (certOk t n now x)) := by
 have hx' := hx
 obtain ⟨Ax0, cx0, Ax1, cx1, Ax2, cx2, rfl, xg0, xg1, xg2, xg3, xg4⟩ := rd_Data hx
 have ln : bn < W0.heap.size := World.block_lt_of_cell? W0 _ kn
 have lo : bo < W0.heap.size := World.block_lt_of_cell? W0 _ ko
 have lt : bt < W0.heap.size := World.block_lt_of_cell? W0 _ kt
 have HP := Lib.hid (show certOk t n now x = (decide (x.1 = n) && (f_FreshAt x now && (f_VerifySignature t.1 x && decide (x.2.1 = f_KeyDigest t.1 n)))) from rfl)
 have kb0_0 : (W0.alloc (.cells #[.slice Ax0 (List.length x.1) cx0, .slice Ax1 (List.length x.2.1) cx1, .slice Ax2 (List.length x.2.2.1) cx2, .int .i64 x.2.2.2.1, .int .i64 x.2.2.2.2] 34)).cell? ⟨W0.heap.size, 0, none⟩ = some (.slice Ax0 (List.length x.1) cx0) := (cell_new W0 _ _ 0 b_27)
 have kb0_1 : (W0.alloc (.cells #[.slice Ax0 (List.length x.1) cx0, .slice Ax1 (List.length x.2.1) cx1, .slice Ax2 (List.length x.2.2.1) cx2, .int .i64 x.2.2.2.1, .int .i64 x.2.2.2.2] 34)).cell? ⟨W0.heap.size, 1, none⟩ = some (.slice Ax1 (List.length x.2.1) cx1) := (cell_new W0 _ _ 1 b_27)
 have kb0_2 : (W0.alloc (.cells #[.slice Ax0 (List.length x.1) cx0, .slice Ax1 (List.length x.2.1) cx1, .slice Ax2 (List.length x.2.2.1) cx2, .int .i64 x.2.2.2.1, .int .i64 x.2.2.2.2] 34)).cell? ⟨W0.heap.size, 2, none⟩ = some (.slice Ax2 (List.length x.2.2.1) cx2) := (cell_new W0 _ _ 2 b_27)
 have kb0_3 : (W0.alloc (.cells #[.slice Ax0 (List.length x.1) cx0, .slice Ax1 (List.length x.2.1) cx1, .slice Ax2 (List.length x.2.2.1) cx2, .int .i64 x.2.2.2.1, .int .i64 x.2.2.2.2] 34)).cell? ⟨W0.heap.size, 3, none⟩ = some (.int .i64 x.2.2.2.1) := (cell_new W0 _ _ 3 b_27)
 have kb0_4 : (W0.alloc (.cells #[.slice Ax0 (List.length x.1) cx0, .slice Ax1 (List.length x.2.1) cx1, .slice Ax2 (List.length x.2.2.1) cx2, .int .i64 x.2.2.2.1, .int .i64 x.2.2.2.2] 34)).cell? ⟨W0.heap.size, 4, none⟩ = some (.int .i64 x.2.2.2.2) := (cell_new W0 _ _ 4 b_27)
 have hvb : Below W0.heap.size W0 (W0.alloc (.cells #[.slice Ax0 (List.length x.1) cx0, .slice Ax1 (List.length x.2.1) cx1, .slice Ax2 (List.length x.2.2.1) cx2, .int .i64 x.2.2.2.1, .int .i64 x.2.2.2.2] 34)) := b_10
 have zb0 := Lib.hid (show (W0.alloc (.cells #[.slice Ax0 (List.length x.1) cx0, .slice Ax1 (List.length x.2.1) cx1, .slice Ax2 (List.length x.2.2.1) cx2, .int .i64 x.2.2.2.1, .int .i64 x.2.2.2.2] 34)).heap.size = W0.heap.size + 1 from by simp only [World.size_alloc])
 have zb : W0.heap.size < (W0.alloc (.cells #[.slice Ax0 (List.length x.1) cx0, .slice Ax1 (List.length x.2.1) cx1, .slice Ax2 (List.length x.2.2.1) cx2, .int .i64 x.2.2.2.1, .int .i64 x.2.2.2.2] 34)).heap.size := by simp only [World.size_alloc]; omega
 go_enter Tryz.func67, Tryz.ntmps67
 go_wp2_with fail
 generalize (W0.alloc (.cells #[.slice Ax0 (List.length x.1) cx0, .slice Ax1 (List.length x.2.1) cx1, .slice Ax2 (List.length x.2.2.1) cx2, .int .i64 x.2.2.2.1, .int .i64 x.2.2.2.2] 34)) = WX at kb0_0 kb0_1 kb0_2 kb0_3 kb0_4 hvb zb zb0 ⊢
 have HC : Hid (∀ V, Below WX.heap.size WX V → V.cell? ⟨W0.heap.size, 0, none⟩ = some (.slice Ax0 (List.length x.1) cx0) ∧ V.cell? ⟨W0.heap.size, 1, none⟩ = some (.slice Ax1 (List.length x.2.1) cx1) ∧ V.cell? ⟨W0.heap.size, 2, none⟩ = some (.slice Ax2 (List.length x.2.2.1) cx2) ∧ V.cell? ⟨W0.heap.size, 3, none⟩ = some (.int .i64 x.2.2.2.1) ∧ V.cell? ⟨W0.heap.size, 4, none⟩ = some (.int .i64 x.2.2.2.2)) := fun V hW => ⟨(hW.cell (p := ⟨W0.heap.size, 0, none⟩) b_34).trans kb0_0, (hW.cell (p := ⟨W0.heap.size, 1, none⟩) b_34).trans kb0_1, (hW.cell (p := ⟨W0.heap.size, 2, none⟩) b_34).trans kb0_2, (hW.cell (p := ⟨W0.heap.size, 3, none⟩) b_34).trans kb0_3, (hW.cell (p := ⟨W0.heap.size, 4, none⟩) b_34).trans kb0_4⟩
 clear kb0_0 kb0_1 kb0_2 kb0_3 kb0_4
 have hv0 : Below WX.heap.size WX WX := Below.refl _ _
 have zl : W0.heap.size < WX.heap.size := by omega
 have HH : Hid (∀ W, Below WX.heap.size WX W → Below WX.heap.size WX W ∧ W.cell? ⟨W0.heap.size, 0, none⟩ = some (.slice Ax0 (List.length x.1) cx0) ∧ W.cell? ⟨W0.heap.size, 1, none⟩ = some (.slice Ax1 (List.length x.2.1) cx1) ∧ W.cell? ⟨W0.heap.size, 2, none⟩ = some (.slice Ax2 (List.length x.2.2.1) cx2) ∧ W.cell? ⟨W0.heap.size, 3, none⟩ = some (.int .i64 x.2.2.2.1) ∧ W.cell? ⟨W0.heap.size, 4, none⟩ = some (.int .i64 x.2.2.2.2) ∧ W.cell? ⟨bn, 0, none⟩ = some (.slice An n.length cn) ∧ W.cell? ⟨bo, 0, none⟩ = some (.int .i64 now) ∧ W.cell? ⟨bt, 0, none⟩ = some (.slice Ak (List.length t.1) ck)) := fun W hW => ⟨hW, (HC.out W hW).1, (HC.out W hW).2.1, (HC.out W hW).2.2.1, (HC.out W hW).2.2.2.1, (HC.out W hW).2.2.2.2, (hW.cell (p := ⟨bn, 0, none⟩) b_34).trans ((hvb.cell (p := ⟨bn, 0, none⟩) ln).trans kn), (hW.cell (p := ⟨bo, 0, none⟩) b_34).trans ((hvb.cell (p := ⟨bo, 0, none⟩) lo).trans ko), (hW.cell (p := ⟨bt, 0, none⟩) b_34).trans ((hvb.cell (p := ⟨bt, 0, none⟩) lt).trans kt)⟩
 cases q0 : decide (x.1 = n)
 ·have HZ := Lib.hid (show certOk t n now x = false from by rw [HP.out, q0]; (try simp))
  go_wp2_with fail
  refine wp_region_noPanic ?_
  refine wp_region_held_drew (S := (fun W => Below WX.heap.size WX W ∧ W.cell? ⟨W0.heap.size, 0, none⟩ = some (.slice Ax0 (List.length x.1) cx0) ∧ W.cell? ⟨W0.heap.size, 1, none⟩ = some (.slice Ax1 (List.length x.2.1) cx1) ∧ W.cell? ⟨W0.heap.size, 2, none⟩ = some (.slice Ax2 (List.length x.2.2.1) cx2) ∧ W.cell? ⟨W0.heap.size, 3, none⟩ = some (.int .i64 x.2.2.2.1) ∧ W.cell? ⟨W0.heap.size, 4, none⟩ = some (.int .i64 x.2.2.2.2) ∧ W.cell? ⟨bn, 0, none⟩ = some (.slice An n.length cn) ∧ W.cell? ⟨bo, 0, none⟩ = some (.int .i64 now) ∧ W.cell? ⟨bt, 0, none⟩ = some (.slice Ak (List.length t.1) ck))) b_35 ?_ (fun hHeld => ?_)
  ·exact HH.out _ b_4
  refine tkz3 0 1 2 ?_
  try simp only [layz]
  refine rz1 3 (fun K hK => ?_)
  go_simp
  go_at_call 68
  refine (C_impl_EqualNames _ _ _ _ _ (Ty.rd_below b_4 (Ty.rd_below hvb xg0)) (Ty.rd_below b_4 (Ty.rd_below hvb hn))).mono ?_
  rw [q0]
  rintro e w1 ⟨rfl, hb1⟩
  refine hK.out _ _ (HH.out _ b_4) (fun hHeld => ?_)
  clear hK K
  try simp only [layz]
  refine tkz 4 ?_
  try simp only [layz]
  refine skz 5 ?_
  try simp only [layz]
  refine skz 6 ?_
  try simp only [layz]
  refine skz 7 ?_
  try simp only [layz]
  refine tkz2 8 9 ?_
  try simp only [layz]
  refine skz 10 ?_
  try simp only [layz]
  refine skz 11 ?_
  try simp only [layz]
  refine skz 12 ?_
  try simp only [layz]
  refine skz 13 ?_
  try simp only [layz]
  refine tkz2 14 15 ?_
  try simp only [layz]
  refine skz 16 ?_
  try simp only [layz]
  refine skz 17 ?_
  try simp only [layz]
  refine skz 18 ?_
  try simp only [layz]
  refine skz 19 ?_
  try simp only [layz]
  refine skz 20 ?_
  try simp only [layz]
  refine skz 21 ?_
  try simp only [layz]
  refine skz 22 ?_
  try simp only [layz]
  refine tkz2 23 24 ?_
  try simp only [layz]
  refine wpAnyH_done b_35 ?_ _
  refine NoPanic.normal ?_
  clear q0
  go_wp2
  go_ret
  exact ⟨ret_bool (by rw [HZ.out]), bel_trans hvb b_4⟩
 cases q1 : f_FreshAt x now
 ·have HZ := Lib.hid (show certOk t n now x = false from by rw [HP.out, q0, q1]; (try simp))
  go_wp2_with fail
  refine wp_region_noPanic ?_
  refine wp_region_held_drew (S := (fun W => Below WX.heap.size WX W ∧ W.cell? ⟨W0.heap.size, 0, none⟩ = some (.slice Ax0 (List.length x.1) cx0) ∧ W.cell? ⟨W0.heap.size, 1, none⟩ = some (.slice Ax1 (List.length x.2.1) cx1) ∧ W.cell? ⟨W0.heap.size, 2, none⟩ = some (.slice Ax2 (List.length x.2.2.1) cx2) ∧ W.cell? ⟨W0.heap.size, 3, none⟩ = some (.int .i64 x.2.2.2.1) ∧ W.cell? ⟨W0.heap.size, 4, none⟩ = some (.int .i64 x.2.2.2.2) ∧ W.cell? ⟨bn, 0, none⟩ = some (.slice An n.length cn) ∧ W.cell? ⟨bo, 0, none⟩ = some (.int .i64 now) ∧ W.cell? ⟨bt, 0, none⟩ = some (.slice Ak (List.length t.1) ck))) b_35 ?_ (fun hHeld => ?_)
  ·exact HH.out _ b_4
  refine tkz3 0 1 2 ?_
  try simp only [layz]
  refine rz1 3 (fun K hK => ?_)
  go_simp
  go_at_call 68
  refine (C_impl_EqualNames _ _ _ _ _ (Ty.rd_below b_4 (Ty.rd_below hvb xg0)) (Ty.rd_below b_4 (Ty.rd_below hvb hn))).mono ?_
  rw [q0]
  rintro e w1 ⟨rfl, hb1⟩
  refine hK.out _ _ (HH.out _ b_4) (fun hHeld => ?_)
  clear hK K
  try simp only [layz]
  refine tkz3 4 5 6 ?_
  try simp only [layz]
  refine rz1 7 (fun K hK => ?_)
  go_simp
  go_at_call 69
  refine (C_impl_FreshAt _ _ x now (Ty.rd_below b_4 (Ty.rd_below hvb hx')) sx i2).mono ?_
  rw [q1]
  rintro e w2 ⟨rfl, hb2⟩
  refine hK.out _ _ (HH.out _ b_4) (fun hHeld => ?_)
  clear hK K
  try simp only [layz]
  refine tkz2 8 9 ?_
  try simp only [layz]
  refine skz 10 ?_
  try simp only [layz]
  refine skz 11 ?_
  try simp only [layz]
  refine skz 12 ?_
  try simp only [layz]
  refine skz 13 ?_
  try simp only [layz]
  refine tkz2 14 15 ?_
  try simp only [layz]
  refine skz 16 ?_
  try simp only [layz]
  refine skz 17 ?_
  try simp only [layz]
  refine skz 18 ?_
  try simp only [layz]
  refine skz 19 ?_
  try simp only [layz]
  refine skz 20 ?_
  try simp only [layz]
  refine skz 21 ?_
  try simp only [layz]
  refine skz 22 ?_
  try simp only [layz]
  refine tkz2 23 24 ?_
  try simp only [layz]
  refine wpAnyH_done b_35 ?_ _
  refine NoPanic.normal ?_
  clear q0 q1
  go_wp2
  go_ret
  exact ⟨ret_bool (by rw [HZ.out]), bel_trans hvb b_4⟩
 cases q2 : f_VerifySignature t.1 x
 ·have HZ := Lib.hid (show certOk t n now x = false from by rw [HP.out, q0, q1, q2]; (try simp))
  go_wp2_with fail
  refine wp_region_noPanic ?_
  refine wp_region_held_drew (S := (fun W => Below WX.heap.size WX W ∧ W.cell? ⟨W0.heap.size, 0, none⟩ = some (.slice Ax0 (List.length x.1) cx0) ∧ W.cell? ⟨W0.heap.size, 1, none⟩ = some (.slice Ax1 (List.length x.2.1) cx1) ∧ W.cell? ⟨W0.heap.size, 2, none⟩ = some (.slice Ax2 (List.length x.2.2.1) cx2) ∧ W.cell? ⟨W0.heap.size, 3, none⟩ = some (.int .i64 x.2.2.2.1) ∧ W.cell? ⟨W0.heap.size, 4, none⟩ = some (.int .i64 x.2.2.2.2) ∧ W.cell? ⟨bn, 0, none⟩ = some (.slice An n.length cn) ∧ W.cell? ⟨bo, 0, none⟩ = some (.int .i64 now) ∧ W.cell? ⟨bt, 0, none⟩ = some (.slice Ak (List.length t.1) ck))) b_35 ?_ (fun hHeld => ?_)
  ·exact HH.out _ b_4
  refine tkz3 0 1 2 ?_
  try simp only [layz]
  refine rz1 3 (fun K hK => ?_)
  go_simp
  go_at_call 68
  refine (C_impl_EqualNames _ _ _ _ _ (Ty.rd_below b_4 (Ty.rd_below hvb xg0)) (Ty.rd_below b_4 (Ty.rd_below hvb hn))).mono ?_
  rw [q0]
  rintro e w1 ⟨rfl, hb1⟩
  refine hK.out _ _ (HH.out _ b_4) (fun hHeld => ?_)
  clear hK K
  try simp only [layz]
  refine tkz3 4 5 6 ?_
  try simp only [layz]
  refine rz1 7 (fun K hK => ?_)
  go_simp
  go_at_call 69
  refine (C_impl_FreshAt _ _ x now (Ty.rd_below b_4 (Ty.rd_below hvb hx')) sx i2).mono ?_
  rw [q1]
  rintro e w2 ⟨rfl, hb2⟩
  refine hK.out _ _ (HH.out _ b_4) (fun hHeld => ?_)
  clear hK K
  try simp only [layz]
  refine tkz4 8 9 10 11 ?_
  try simp only [layz]
  refine tkz 12 ?_
  try simp only [layz]
  refine rz1 13 (fun K hK => ?_)
  go_simp
  go_at_call 31
  refine (C_impl_VerifySignature _ _ t.1 _ x (Ty.rd_below b_4 (Ty.rd_below hvb hk)) (Ty.rd_below b_4 (Ty.rd_below hvb hx')) s0a sx).mono ?_
  rw [q2]
  rintro e w3 ⟨rfl, hb3⟩
  refine hK.out _ _ (HH.out _ b_4) (fun hHeld => ?_)
  clear hK K
  try simp only [layz]
  refine tkz2 14 15 ?_
  try simp only [layz]
  refine skz 16 ?_
  try simp only [layz]
  refine skz 17 ?_
  try simp only [layz]
  refine skz 18 ?_
  try simp only [layz]
  refine skz 19 ?_
  try simp only [layz]
  refine skz 20 ?_
  try simp only [layz]
  refine skz 21 ?_
  try simp only [layz]
  refine skz 22 ?_
  try simp only [layz]
  refine tkz2 23 24 ?_
  try simp only [layz]
  refine wpAnyH_done b_35 ?_ _
  refine NoPanic.normal ?_
  clear q0 q1 q2
  go_wp2
  go_ret
  exact ⟨ret_bool (by rw [HZ.out]), bel_trans hvb b_4⟩
 cases q3 : decide (x.2.1 = f_KeyDigest t.1 n)
 ·have HZ := Lib.hid (show certOk t n now x = false from by rw [HP.out, q0, q1, q2, q3]; (try simp))
  go_wp2_with fail
  refine wp_region_noPanic ?_
  refine wp_region_held_drew (S := (fun W => Below WX.heap.size WX W ∧ W.cell? ⟨W0.heap.size, 0, none⟩ = some (.slice Ax0 (List.length x.1) cx0) ∧ W.cell? ⟨W0.heap.size, 1, none⟩ = some (.slice Ax1 (List.length x.2.1) cx1) ∧ W.cell? ⟨W0.heap.size, 2, none⟩ = some (.slice Ax2 (List.length x.2.2.1) cx2) ∧ W.cell? ⟨W0.heap.size, 3, none⟩ = some (.int .i64 x.2.2.2.1) ∧ W.cell? ⟨W0.heap.size, 4, none⟩ = some (.int .i64 x.2.2.2.2) ∧ W.cell? ⟨bn, 0, none⟩ = some (.slice An n.length cn) ∧ W.cell? ⟨bo, 0, none⟩ = some (.int .i64 now) ∧ W.cell? ⟨bt, 0, none⟩ = some (.slice Ak (List.length t.1) ck))) b_35 ?_ (fun hHeld => ?_)
  ·exact HH.out _ b_4
  refine tkz3 0 1 2 ?_
  try simp only [layz]
  refine rz1 3 (fun K hK => ?_)
  go_simp
  go_at_call 68
  refine (C_impl_EqualNames _ _ _ _ _ (Ty.rd_below b_4 (Ty.rd_below hvb xg0)) (Ty.rd_below b_4 (Ty.rd_below hvb hn))).mono ?_
  rw [q0]
  rintro e w1 ⟨rfl, hb1⟩
  refine hK.out _ _ (HH.out _ b_4) (fun hHeld => ?_)
  clear hK K
  try simp only [layz]
  refine tkz3 4 5 6 ?_
  try simp only [layz]
  refine rz1 7 (fun K hK => ?_)
  go_simp
  go_at_call 69
  refine (C_impl_FreshAt _ _ x now (Ty.rd_below b_4 (Ty.rd_below hvb hx')) sx i2).mono ?_
  rw [q1]
  rintro e w2 ⟨rfl, hb2⟩
  refine hK.out _ _ (HH.out _ b_4) (fun hHeld => ?_)
  clear hK K
  try simp only [layz]
  refine tkz4 8 9 10 11 ?_
  try simp only [layz]
  refine tkz 12 ?_
  try simp only [layz]
  refine rz1 13 (fun K hK => ?_)
  go_simp
  go_at_call 31
  refine (C_impl_VerifySignature _ _ t.1 _ x (Ty.rd_below b_4 (Ty.rd_below hvb hk)) (Ty.rd_below b_4 (Ty.rd_below hvb hx')) s0a sx).mono ?_
  rw [q2]
  rintro e w3 ⟨rfl, hb3⟩
  refine hK.out _ _ (HH.out _ b_4) (fun hHeld => ?_)
  clear hK K
  try simp only [layz]
  refine tkz4 14 15 16 17 ?_
  try simp only [layz]
  refine tkz3 18 19 20 ?_
  try simp only [layz]
  refine rz1 21 (fun K hK => ?_)
  go_simp
  go_at_call 27
  refine (C_impl_KeyDigest _ _ t.1 _ n (Ty.rd_below b_4 (Ty.rd_below hvb hk)) (Ty.rd_below b_4 (Ty.rd_below hvb hn)) s0a s1).mono ?_
  rintro e w4 ⟨A4, c4, fp4, rfl, how4, hfr4, hb4⟩
  refine hK.out _ _ (HH.out _ b_4) (fun hHeld => ?_)
  clear hK K
  try simp only [layz]
  refine rz1 22 (fun K hK => ?_)
  go_simp
  go_at_call 70
  refine (C_slices_Equal_byte _ _ _ x.2.1 (f_KeyDigest t.1 n) (Ty.rd_below b_4 (Ty.rd_below hvb xg1)) (Ty.rd_below b_4 (Ty.ow_rd how4))).mono ?_
  rw [q3]
  rintro e w5 ⟨rfl, hb5⟩
  refine hK.out _ _ (HH.out _ b_4) (fun hHeld => ?_)
  clear hK K
  try simp only [layz]
  refine tkz2 23 24 ?_
  try simp only [layz]
  refine wpAnyH_done b_35 ?_ _
  refine NoPanic.normal ?_
  clear q0 q1 q2 q3
  go_wp2
  go_ret
  exact ⟨ret_bool (by rw [HZ.out]), bel_trans hvb b_4⟩
 have HZ := Lib.hid (show certOk t n now x = true from by rw [HP.out, q0, q1, q2, q3]; rfl)
 go_wp2_with fail
 refine wp_region_noPanic ?_
 refine wp_region_held_drew (S := (fun W => Below WX.heap.size WX W ∧ W.cell? ⟨W0.heap.size, 0, none⟩ = some (.slice Ax0 (List.length x.1) cx0) ∧ W.cell? ⟨W0.heap.size, 1, none⟩ = some (.slice Ax1 (List.length x.2.1) cx1) ∧ W.cell? ⟨W0.heap.size, 2, none⟩ = some (.slice Ax2 (List.length x.2.2.1) cx2) ∧ W.cell? ⟨W0.heap.size, 3, none⟩ = some (.int .i64 x.2.2.2.1) ∧ W.cell? ⟨W0.heap.size, 4, none⟩ = some (.int .i64 x.2.2.2.2) ∧ W.cell? ⟨bn, 0, none⟩ = some (.slice An n.length cn) ∧ W.cell? ⟨bo, 0, none⟩ = some (.int .i64 now) ∧ W.cell? ⟨bt, 0, none⟩ = some (.slice Ak (List.length t.1) ck))) b_35 ?_ (fun hHeld => ?_)
 ·exact HH.out _ b_4
 refine tkz3 0 1 2 ?_
 try simp only [layz]
 refine rz1 3 (fun K hK => ?_)
 go_simp
 go_at_call 68
 refine (C_impl_EqualNames _ _ _ _ _ (Ty.rd_below b_4 (Ty.rd_below hvb xg0)) (Ty.rd_below b_4 (Ty.rd_below hvb hn))).mono ?_
 rw [q0]
 rintro e w1 ⟨rfl, hb1⟩
 refine hK.out _ _ (HH.out _ b_4) (fun hHeld => ?_)
 clear hK K
 try simp only [layz]
 refine tkz3 4 5 6 ?_
 try simp only [layz]
 refine rz1 7 (fun K hK => ?_)
 go_simp
 go_at_call 69
 refine (C_impl_FreshAt _ _ x now (Ty.rd_below b_4 (Ty.rd_below hvb hx')) sx i2).mono ?_
 rw [q1]
 rintro e w2 ⟨rfl, hb2⟩
 refine hK.out _ _ (HH.out _ b_4) (fun hHeld => ?_)
 clear hK K
 try simp only [layz]
 refine tkz4 8 9 10 11 ?_
 try simp only [layz]
 refine tkz 12 ?_
 try simp only [layz]
 refine rz1 13 (fun K hK => ?_)
 go_simp
 go_at_call 31
 refine (C_impl_VerifySignature _ _ t.1 _ x (Ty.rd_below b_4 (Ty.rd_below hvb hk)) (Ty.rd_below b_4 (Ty.rd_below hvb hx')) s0a sx).mono ?_
 rw [q2]
 rintro e w3 ⟨rfl, hb3⟩
 refine hK.out _ _ (HH.out _ b_4) (fun hHeld => ?_)
 clear hK K
 try simp only [layz]
 refine tkz4 14 15 16 17 ?_
 try simp only [layz]
 refine tkz3 18 19 20 ?_
 try simp only [layz]
 refine rz1 21 (fun K hK => ?_)
 go_simp
 go_at_call 27
 refine (C_impl_KeyDigest _ _ t.1 _ n (Ty.rd_below b_4 (Ty.rd_below hvb hk)) (Ty.rd_below b_4 (Ty.rd_below hvb hn)) s0a s1).mono ?_
 rintro e w4 ⟨A4, c4, fp4, rfl, how4, hfr4, hb4⟩
 refine hK.out _ _ (HH.out _ b_4) (fun hHeld => ?_)
 clear hK K
 try simp only [layz]
 refine rz1 22 (fun K hK => ?_)
 go_simp
 go_at_call 70
 refine (C_slices_Equal_byte _ _ _ x.2.1 (f_KeyDigest t.1 n) (Ty.rd_below b_4 (Ty.rd_below hvb xg1)) (Ty.rd_below b_4 (Ty.ow_rd how4))).mono ?_
 rw [q3]
 rintro e w5 ⟨rfl, hb5⟩
 refine hK.out _ _ (HH.out _ b_4) (fun hHeld => ?_)
 clear hK K
 try simp only [layz]
 refine tkz2 23 24 ?_
 try simp only [layz]
 refine wpAnyH_done b_35 ?_ _
 refine NoPanic.normal ?_
 clear q0 q1 q2 q3
 go_wp2
 go_ret
 exact ⟨ret_bool (by rw [HZ.out]), bel_trans hvb b_4⟩
set_option maxHeartbeats 1000000 in
theorem C_impl_FindCertificate (w : World) (cs1 : List Value) (t : tTrustPolicy.D) (cs2 : List Value) (n : List (List UInt8)) (now : Int) (h1 : tTrustPolicy.rd w cs1 t) (h2 : (Ty.sl .str).rd w cs2 n) (s0 : Ty.bulk tTrustPolicy t ≤ 1048576) (s1 : Ty.bulk (.sl .str) n ≤ 1048576) (i2 : -9223372036854775808 ≤ now ∧ now ≤ 9223372036854775807) :
  Calls Tryz.prog 19 #[.agg cs1.toArray, .agg cs2.toArray, .int .i64 now] w (RetI w (f_FindCertificate t n now)) := by
 obtain ⟨At0, ct0, At1, ct1, At2, ct2, At3, ct3, rfl, tg0, tg1, tg2, tg3⟩ := rd_TrustPolicy h1
 obtain ⟨An0, cn0, rfl⟩ := Ty.rd_slv h2
 obtain ⟨s0a, s0b, s0c, s0d⟩ := trust_parts s0
 have kb0_0 : (((w.alloc (.cells #[.slice At0 (List.length t.1) ct0, .slice At1 (List.length t.2.1) ct1, .slice At2 (List.length t.2.2.1) ct2, .slice At3 (List.length t.2.2.2) ct3] 29)).alloc (.cells #[.slice An0 (List.length n) cn0] 32)).alloc (.cells #[.int .i64 now] 3)).cell? ⟨w.heap.size, 0, none⟩ = some (.slice At0 (List.length t.1) ct0) := ((World.cell?_alloc_lt _ _ _ b_30).trans ((World.cell?_alloc_lt _ _ _ b_30).trans (cell_new w _ _ 0 b_27)))
 have kb0_1 : (((w.alloc (.cells #[.slice At0 (List.length t.1) ct0, .slice At1 (List.length t.2.1) ct1, .slice At2 (List.length t.2.2.1) ct2, .slice At3 (List.length t.2.2.2) ct3] 29)).alloc (.cells #[.slice An0 (List.length n) cn0] 32)).alloc (.cells #[.int .i64 now] 3)).cell? ⟨w.heap.size, 1, none⟩ = some (.slice At1 (List.length t.2.1) ct1) := ((World.cell?_alloc_lt _ _ _ b_30).trans ((World.cell?_alloc_lt _ _ _ b_30).trans (cell_new w _ _ 1 b_27)))
 have kb0_2 : (((w.alloc (.cells #[.slice At0 (List.length t.1) ct0, .slice At1 (List.length t.2.1) ct1, .slice At2 (List.length t.2.2.1) ct2, .slice At3 (List.length t.2.2.2) ct3] 29)).alloc (.cells #[.slice An0 (List.length n) cn0] 32)).alloc (.cells #[.int .i64 now] 3)).cell? ⟨w.heap.size, 2, none⟩ = some (.slice At2 (List.length t.2.2.1) ct2) := ((World.cell?_alloc_lt _ _ _ b_30).trans ((World.cell?_alloc_lt _ _ _ b_30).trans (cell_new w _ _ 2 b_27)))
 have kb0_3 : (((w.alloc (.cells #[.slice At0 (List.length t.1) ct0, .slice At1 (List.length t.2.1) ct1, .slice At2 (List.length t.2.2.1) ct2, .slice At3 (List.length t.2.2.2) ct3] 29)).alloc (.cells #[.slice An0 (List.length n) cn0] 32)).alloc (.cells #[.int .i64 now] 3)).cell? ⟨w.heap.size, 3, none⟩ = some (.slice At3 (List.length t.2.2.2) ct3) := ((World.cell?_alloc_lt _ _ _ b_30).trans ((World.cell?_alloc_lt _ _ _ b_30).trans (cell_new w _ _ 3 b_27)))
 have kb1_0 : (((w.alloc (.cells #[.slice At0 (List.length t.1) ct0, .slice At1 (List.length t.2.1) ct1, .slice At2 (List.length t.2.2.1) ct2, .slice At3 (List.length t.2.2.2) ct3] 29)).alloc (.cells #[.slice An0 (List.length n) cn0] 32)).alloc (.cells #[.int .i64 now] 3)).cell? ⟨w.heap.size + 1, 0, none⟩ = some (.slice An0 (List.length n) cn0) := ((World.cell?_alloc_lt _ _ _ b_30).trans (cell_new (w.alloc (.cells #[.slice At0 (List.length t.1) ct0, .slice At1 (List.length t.2.1) ct1, .slice At2 (List.length t.2.2.1) ct2, .slice At3 (List.length t.2.2.2) ct3] 29)) _ _ 0 b_27))
 have kb2_0 : (((w.alloc (.cells #[.slice At0 (List.length t.1) ct0, .slice At1 (List.length t.2.1) ct1, .slice At2 (List.length t.2.2.1) ct2, .slice At3 (List.length t.2.2.2) ct3] 29)).alloc (.cells #[.slice An0 (List.length n) cn0] 32)).alloc (.cells #[.int .i64 now] 3)).cell? ⟨w.heap.size + 1 + 1, 0, none⟩ = some (.int .i64 now) := (cell_new ((w.alloc (.cells #[.slice At0 (List.length t.1) ct0, .slice At1 (List.length t.2.1) ct1, .slice At2 (List.length t.2.2.1) ct2, .slice At3 (List.length t.2.2.2) ct3] 29)).alloc (.cells #[.slice An0 (List.length n) cn0] 32)) _ _ 0 b_27)
 have hvb : Below w.heap.size w (((w.alloc (.cells #[.slice At0 (List.length t.1) ct0, .slice At1 (List.length t.2.1) ct1, .slice At2 (List.length t.2.2.1) ct2, .slice At3 (List.length t.2.2.2) ct3] 29)).alloc (.cells #[.slice An0 (List.length n) cn0] 32)).alloc (.cells #[.int .i64 now] 3)) := b_10
 have zb0 := Lib.hid (show (((w.alloc (.cells #[.slice At0 (List.length t.1) ct0, .slice At1 (List.length t.2.1) ct1, .slice At2 (List.length t.2.2.1) ct2, .slice At3 (List.length t.2.2.2) ct3] 29)).alloc (.cells #[.slice An0 (List.length n) cn0] 32)).alloc (.cells #[.int .i64 now] 3)).heap.size = w.heap.size + 1 + 1 + 1 from by simp only [World.size_alloc])
 have zb : w.heap.size + 1 + 1 < (((w.alloc (.cells #[.slice At0 (List.length t.1) ct0, .slice At1 (List.length t.2.1) ct1, .slice At2 (List.length t.2.2.1) ct2, .slice At3 (List.length t.2.2.2) ct3] 29)).alloc (.cells #[.slice An0 (List.length n) cn0] 32)).alloc (.cells #[.int .i64 now] 3)).heap.size := by simp only [World.size_alloc]; omega
 have hmf := hmf_ (P := Tryz.prog)
 by_cases hz : f_SecretOf t.1 n = 0
 ·have HF := Lib.hid (show f_FindCertificate t n now = -1 from by unfold f_FindCertificate; rw [if_pos hz])
  have q0 : (f_SecretOf t.1 n == 0) = true := by simp [hz]
  clear hz
  go_enter Tryz.func19, Tryz.ntmps19
  go_wp2_with fail
  generalize (((w.alloc (.cells #[.slice At0 (List.length t.1) ct0, .slice At1 (List.length t.2.1) ct1, .slice At2 (List.length t.2.2.1) ct2, .slice At3 (List.length t.2.2.2) ct3] 29)).alloc (.cells #[.slice An0 (List.length n) cn0] 32)).alloc (.cells #[.int .i64 now] 3)) = WX at kb0_0 kb0_1 kb0_2 kb0_3 kb1_0 kb2_0 hvb zb zb0 ⊢
  have HC : Hid (∀ V, Below WX.heap.size WX V → V.cell? ⟨w.heap.size, 0, none⟩ = some (.slice At0 (List.length t.1) ct0) ∧ V.cell? ⟨w.heap.size, 1, none⟩ = some (.slice At1 (List.length t.2.1) ct1) ∧ V.cell? ⟨w.heap.size, 2, none⟩ = some (.slice At2 (List.length t.2.2.1) ct2) ∧ V.cell? ⟨w.heap.size, 3, none⟩ = some (.slice At3 (List.length t.2.2.2) ct3) ∧ V.cell? ⟨w.heap.size + 1, 0, none⟩ = some (.slice An0 (List.length n) cn0) ∧ V.cell? ⟨w.heap.size + 1 + 1, 0, none⟩ = some (.int .i64 now)) := fun V hW => ⟨(hW.cell (p := ⟨w.heap.size, 0, none⟩) b_34).trans kb0_0, (hW.cell (p := ⟨w.heap.size, 1, none⟩) b_34).trans kb0_1, (hW.cell (p := ⟨w.heap.size, 2, none⟩) b_34).trans kb0_2, (hW.cell (p := ⟨w.heap.size, 3, none⟩) b_34).trans kb0_3, (hW.cell (p := ⟨w.heap.size + 1, 0, none⟩) b_34).trans kb1_0, (hW.cell (p := ⟨w.heap.size + 1 + 1, 0, none⟩) b_34).trans kb2_0⟩
  clear kb0_0 kb0_1 kb0_2 kb0_3 kb1_0 kb2_0
  refine (C_impl_SecretOf _ _ t.1 _ n (Ty.rd_below hvb tg0) (Ty.rd_below hvb h2) s0a s1).mono ?_
  rintro e w1 ⟨rfl, hb1⟩
  go_wp2
  go_ret
  exact ⟨ret_int (by rw [HF.out]), bel_trans hvb hb1⟩
 ·have HF := Lib.hid (show f_FindCertificate t n now = ixf (certOk t n now) t.2.2.2 from by unfold f_FindCertificate; rw [if_neg hz])
  have q0 : (f_SecretOf t.1 n == 0) = false := by simp [hz]
  clear hz
  go_enter Tryz.func19, Tryz.ntmps19
  go_wp2_with fail
  generalize (((w.alloc (.cells #[.slice At0 (List.length t.1) ct0, .slice At1 (List.length t.2.1) ct1, .slice At2 (List.length t.2.2.1) ct2, .slice At3 (List.length t.2.2.2) ct3] 29)).alloc (.cells #[.slice An0 (List.length n) cn0] 32)).alloc (.cells #[.int .i64 now] 3)) = WX at kb0_0 kb0_1 kb0_2 kb0_3 kb1_0 kb2_0 hvb zb zb0 ⊢
  have HC : Hid (∀ V, Below WX.heap.size WX V → V.cell? ⟨w.heap.size, 0, none⟩ = some (.slice At0 (List.length t.1) ct0) ∧ V.cell? ⟨w.heap.size, 1, none⟩ = some (.slice At1 (List.length t.2.1) ct1) ∧ V.cell? ⟨w.heap.size, 2, none⟩ = some (.slice At2 (List.length t.2.2.1) ct2) ∧ V.cell? ⟨w.heap.size, 3, none⟩ = some (.slice At3 (List.length t.2.2.2) ct3) ∧ V.cell? ⟨w.heap.size + 1, 0, none⟩ = some (.slice An0 (List.length n) cn0) ∧ V.cell? ⟨w.heap.size + 1 + 1, 0, none⟩ = some (.int .i64 now)) := fun V hW => ⟨(hW.cell (p := ⟨w.heap.size, 0, none⟩) b_34).trans kb0_0, (hW.cell (p := ⟨w.heap.size, 1, none⟩) b_34).trans kb0_1, (hW.cell (p := ⟨w.heap.size, 2, none⟩) b_34).trans kb0_2, (hW.cell (p := ⟨w.heap.size, 3, none⟩) b_34).trans kb0_3, (hW.cell (p := ⟨w.heap.size + 1, 0, none⟩) b_34).trans kb1_0, (hW.cell (p := ⟨w.heap.size + 1 + 1, 0, none⟩) b_34).trans kb2_0⟩
  clear kb0_0 kb0_1 kb0_2 kb0_3 kb1_0 kb2_0
  refine (C_impl_SecretOf _ _ t.1 _ n (Ty.rd_below hvb tg0) (Ty.rd_below hvb h2) s0a s1).mono ?_
  rintro e w1 ⟨rfl, hb1⟩
  obtain ⟨j0, j1, j2, j3, j4, j5⟩ := HC.out _ (hb1)
  have zw : w.heap.size < w1.heap.size := by have := hb1.size; omega
  go_wp2_with fail
  refine (C_IndexFunc_Data _ _ t.2.2.2 (certOk t n now) 67 #[.pointer (some ⟨w.heap.size + 1, 0, none⟩), .pointer (some ⟨w.heap.size + 1 + 1, 0, none⟩), .pointer (some ⟨w.heap.size, 0, none⟩)] (enters_of Tryz.func67 b_35 rfl) (Ty.rd_below (bel_trans hvb hb1) tg3) (fun W ds d hd hr hW => ?_)).mono ?_
  ·have hxW : Below WX.heap.size WX W := bel_trans hb1 hW
   obtain ⟨k0, k1, k2, k3, k4, k5⟩ := HC.out W hxW
   obtain ⟨i, hi, rfl⟩ := List.getElem_of_mem hd
   exact C_impl_FindCertificate1 W ds _ t n now _ _ _ _ _ _ _ hr k4 k5 k0 (Ty.rd_below (bel_trans hvb hxW) h2) (Ty.rd_below (bel_trans hvb hxW) tg0) (Ty.bulk_at s0d hi) s0a s1 i2
  rintro e w2 ⟨rfl, hb2⟩
  go_wp2
  go_ret
  exact ⟨ret_int (by rw [HF.out]), bel_trans hvb (bel_trans hb1 hb2)⟩
set_option maxRecDepth 100000 in
set_option maxHeartbeats 2000000 in
theorem C_spec_FindCertificate (w : World) (cs1 : List Value) (t : tTrustPolicy.D) (cs2 : List Value) (n : List (List UInt8)) (now : Int) (h1 : tTrustPolicy.rd w cs1 t) (h2 : (Ty.sl .str).rd w cs2 n) (s0 : Ty.bulk tTrustPolicy t ≤ 1048576) (s1 : Ty.bulk (.sl .str) n ≤ 1048576) (i2 : -9223372036854775808 ≤ now ∧ now ≤ 9223372036854775807) :
  Calls Tryz.prog 20 #[.agg cs1.toArray, .agg cs2.toArray, .int .i64 now] w (RetI w (f_FindCertificate t n now)) := by
 obtain ⟨At0, ct0, At1, ct1, At2, ct2, At3, ct3, rfl, tg0, tg1, tg2, tg3⟩ := rd_TrustPolicy h1
 obtain ⟨An0, cn0, rfl⟩ := Ty.rd_slv h2
 obtain ⟨s0a, s0b, s0c, s0d⟩ := trust_parts s0
 obtain ⟨_, _, _, _, _, m9⟩ := Ty.rd_sl tg3
 have kb0_0 : ((w.alloc (.cells #[.slice At0 (List.length t.1) ct0, .slice At1 (List.length t.2.1) ct1, .slice At2 (List.length t.2.2.1) ct2, .slice At3 (List.length t.2.2.2) ct3] 29)).alloc (.cells #[.slice An0 (List.length n) cn0] 32)).cell? ⟨w.heap.size, 0, none⟩ = some (.slice At0 (List.length t.1) ct0) := ((World.cell?_alloc_lt _ _ _ b_30).trans (cell_new w _ _ 0 b_27))
 have kb0_1 : ((w.alloc (.cells #[.slice At0 (List.length t.1) ct0, .slice At1 (List.length t.2.1) ct1, .slice At2 (List.length t.2.2.1) ct2, .slice At3 (List.length t.2.2.2) ct3] 29)).alloc (.cells #[.slice An0 (List.length n) cn0] 32)).cell? ⟨w.heap.size, 1, none⟩ = some (.slice At1 (List.length t.2.1) ct1) := ((World.cell?_alloc_lt _ _ _ b_30).trans (cell_new w _ _ 1 b_27))
 have kb0_2 : ((w.alloc (.cells #[.slice At0 (List.length t.1) ct0, .slice At1 (List.length t.2.1) ct1, .slice At2 (List.length t.2.2.1) ct2, .slice At3 (List.length t.2.2.2) ct3] 29)).alloc (.cells #[.slice An0 (List.length n) cn0] 32)).cell? ⟨w.heap.size, 2, none⟩ = some (.slice At2 (List.length t.2.2.1) ct2) := ((World.cell?_alloc_lt _ _ _ b_30).trans (cell_new w _ _ 2 b_27))
 have kb0_3 : ((w.alloc (.cells #[.slice At0 (List.length t.1) ct0, .slice At1 (List.length t.2.1) ct1, .slice At2 (List.length t.2.2.1) ct2, .slice At3 (List.length t.2.2.2) ct3] 29)).alloc (.cells #[.slice An0 (List.length n) cn0] 32)).cell? ⟨w.heap.size, 3, none⟩ = some (.slice At3 (List.length t.2.2.2) ct3) := ((World.cell?_alloc_lt _ _ _ b_30).trans (cell_new w _ _ 3 b_27))
 have kb1_0 : ((w.alloc (.cells #[.slice At0 (List.length t.1) ct0, .slice At1 (List.length t.2.1) ct1, .slice At2 (List.length t.2.2.1) ct2, .slice At3 (List.length t.2.2.2) ct3] 29)).alloc (.cells #[.slice An0 (List.length n) cn0] 32)).cell? ⟨w.heap.size + 1, 0, none⟩ = some (.slice An0 (List.length n) cn0) := (cell_new (w.alloc (.cells #[.slice At0 (List.length t.1) ct0, .slice At1 (List.length t.2.1) ct1, .slice At2 (List.length t.2.2.1) ct2, .slice At3 (List.length t.2.2.2) ct3] 29)) _ _ 0 b_27)
 have hvb : Below w.heap.size w ((w.alloc (.cells #[.slice At0 (List.length t.1) ct0, .slice At1 (List.length t.2.1) ct1, .slice At2 (List.length t.2.2.1) ct2, .slice At3 (List.length t.2.2.2) ct3] 29)).alloc (.cells #[.slice An0 (List.length n) cn0] 32)) := b_10
 have zb0 := Lib.hid (show ((w.alloc (.cells #[.slice At0 (List.length t.1) ct0, .slice At1 (List.length t.2.1) ct1, .slice At2 (List.length t.2.2.1) ct2, .slice At3 (List.length t.2.2.2) ct3] 29)).alloc (.cells #[.slice An0 (List.length n) cn0] 32)).heap.size = w.heap.size + 1 + 1 from by simp only [World.size_alloc])
 have zb : w.heap.size + 1 < ((w.alloc (.cells #[.slice At0 (List.length t.1) ct0, .slice At1 (List.length t.2.1) ct1, .slice At2 (List.length t.2.2.1) ct2, .slice At3 (List.length t.2.2.2) ct3] 29)).alloc (.cells #[.slice An0 (List.length n) cn0] 32)).heap.size := by simp only [World.size_alloc]; omega
 by_cases hz : f_SecretOf t.1 n = 0
 ·have HF := Lib.hid (show f_FindCertificate t n now = -1 from by unfold f_FindCertificate; rw [if_pos hz])
  have q0 : (f_SecretOf t.1 n == 0) = true := by simp [hz]
  clear hz
  go_enter Tryz.func20, Tryz.ntmps20
  go_wp2_with fail
  generalize ((w.alloc (.cells #[.slice At0 (List.length t.1) ct0, .slice At1 (List.length t.2.1) ct1, .slice At2 (List.length t.2.2.1) ct2, .slice At3 (List.length t.2.2.2) ct3] 29)).alloc (.cells #[.slice An0 (List.length n) cn0] 32)) = WX at kb0_0 kb0_1 kb0_2 kb0_3 kb1_0 hvb zb zb0 ⊢
  have HC : Hid (∀ V, Below WX.heap.size WX V → V.cell? ⟨w.heap.size, 0, none⟩ = some (.slice At0 (List.length t.1) ct0) ∧ V.cell? ⟨w.heap.size, 1, none⟩ = some (.slice At1 (List.length t.2.1) ct1) ∧ V.cell? ⟨w.heap.size, 2, none⟩ = some (.slice At2 (List.length t.2.2.1) ct2) ∧ V.cell? ⟨w.heap.size, 3, none⟩ = some (.slice At3 (List.length t.2.2.2) ct3) ∧ V.cell? ⟨w.heap.size + 1, 0, none⟩ = some (.slice An0 (List.length n) cn0)) := fun V hW => ⟨(hW.cell (p := ⟨w.heap.size, 0, none⟩) b_34).trans kb0_0, (hW.cell (p := ⟨w.heap.size, 1, none⟩) b_34).trans kb0_1, (hW.cell (p := ⟨w.heap.size, 2, none⟩) b_34).trans kb0_2, (hW.cell (p := ⟨w.heap.size, 3, none⟩) b_34).trans kb0_3, (hW.cell (p := ⟨w.heap.size + 1, 0, none⟩) b_34).trans kb1_0⟩
  clear kb0_0 kb0_1 kb0_2 kb0_3 kb1_0
  refine (C_spec_SecretOf _ _ t.1 _ n (Ty.rd_below hvb tg0) (Ty.rd_below hvb h2) s0a s1).mono ?_
  rintro e w1 ⟨rfl, hb1⟩
  go_wp2
  go_ret
  exact ⟨ret_int (by rw [HF.out]), bel_trans hvb hb1⟩
 have HF := Lib.hid (show f_FindCertificate t n now = ixf (certOk t n now) t.2.2.2 from by unfold f_FindCertificate; rw [if_neg hz])
 have q0 : (f_SecretOf t.1 n == 0) = false := by simp [hz]
 clear hz
 go_enter Tryz.func20, Tryz.ntmps20
 go_wp2_with fail
 generalize ((w.alloc (.cells #[.slice At0 (List.length t.1) ct0, .slice At1 (List.length t.2.1) ct1, .slice At2 (List.length t.2.2.1) ct2, .slice At3 (List.length t.2.2.2) ct3] 29)).alloc (.cells #[.slice An0 (List.length n) cn0] 32)) = WX at kb0_0 kb0_1 kb0_2 kb0_3 kb1_0 hvb zb zb0 ⊢
 have HC : Hid (∀ V, Below WX.heap.size WX V → V.cell? ⟨w.heap.size, 0, none⟩ = some (.slice At0 (List.length t.1) ct0) ∧ V.cell? ⟨w.heap.size, 1, none⟩ = some (.slice At1 (List.length t.2.1) ct1) ∧ V.cell? ⟨w.heap.size, 2, none⟩ = some (.slice At2 (List.length t.2.2.1) ct2) ∧ V.cell? ⟨w.heap.size, 3, none⟩ = some (.slice At3 (List.length t.2.2.2) ct3) ∧ V.cell? ⟨w.heap.size + 1, 0, none⟩ = some (.slice An0 (List.length n) cn0)) := fun V hW => ⟨(hW.cell (p := ⟨w.heap.size, 0, none⟩) b_34).trans kb0_0, (hW.cell (p := ⟨w.heap.size, 1, none⟩) b_34).trans kb0_1, (hW.cell (p := ⟨w.heap.size, 2, none⟩) b_34).trans kb0_2, (hW.cell (p := ⟨w.heap.size, 3, none⟩) b_34).trans kb0_3, (hW.cell (p := ⟨w.heap.size + 1, 0, none⟩) b_34).trans kb1_0⟩
 clear kb0_0 kb0_1 kb0_2 kb0_3 kb1_0
 refine (C_spec_SecretOf _ _ t.1 _ n (Ty.rd_below hvb tg0) (Ty.rd_below hvb h2) s0a s1).mono ?_
 rintro e w1 ⟨rfl, hb1⟩
 obtain ⟨j0, j1, j2, j3, j4⟩ := HC.out _ (hb1)
 have zw : w.heap.size < w1.heap.size := by have := hb1.size; omega
 go_wp2
 clear j0 j1 j2 j3 j4 zw q0
 go_loopw [7] (fun i wr => ∃ k : Nat, k ≤ List.length t.2.2.2 ∧ i = .int .i64 k ∧ (List.take k t.2.2.2).any (certOk t n now) = false ∧ Below WX.heap.size WX wr) (fun i _ => List.length t.2.2.2 - (intOf i).toNat)
 case atStart => exact ⟨0, by omega, by first | rfl | simp, by first | rfl | simp, hb1⟩
 case round =>
  obtain ⟨k, hk, rfl, ht, hb⟩ := hrel
  have hw : Below w.heap.size w wr := bel_trans hvb hb
  have HT := Lib.hid ht
  clear ht
  obtain ⟨wo, hwo⟩ : ∃ wo, wo = wr := ⟨_, rfl⟩
  subst hwo
  obtain ⟨j0, j1, j2, j3, j4⟩ := HC.out _ (hb)
  have zw : w.heap.size + 1 < wo.heap.size := by have := hb.size; omega
  have zw0 : w.heap.size < wo.heap.size := by omega
  by_cases hlt : k < List.length t.2.2.2
  ·have HS := Lib.hid (any_take_succ (certOk t n now) t.2.2.2 hlt)
   obtain ⟨b, o, dsx, hAx, hlx, hcellx, hx⟩ := Ty.rd_at (Ty.rd_below hw tg3) hlt
   subst hAx
   have hx' := hx
   obtain ⟨Ax0, cx0, Ax1, cx1, Ax2, cx2, rfl, xg0, xg1, xg2, xg3, xg4⟩ := rd_Data hx
   have e0 : wo.cell? ⟨b, o + k * 5, none⟩ = some (.slice Ax0 (List.length (t.2.2.2)[k].1) cx0) := by simpa [Ty.sz] using hcellx 0 b_36
   have e1 : wo.cell? ⟨b, o + k * 5 + 1, none⟩ = some (.slice Ax1 (List.length (t.2.2.2)[k].2.1) cx1) := by simpa [Ty.sz] using hcellx 1 b_36
   have e2 : wo.cell? ⟨b, o + k * 5 + 2, none⟩ = some (.slice Ax2 (List.length (t.2.2.2)[k].2.2.1) cx2) := by simpa [Ty.sz] using hcellx 2 b_36
   have e3 : wo.cell? ⟨b, o + k * 5 + 3, none⟩ = some (.int .i64 (t.2.2.2)[k].2.2.2.1) := by simpa [Ty.sz] using hcellx 3 b_36
   have e4 : wo.cell? ⟨b, o + k * 5 + 4, none⟩ = some (.int .i64 (t.2.2.2)[k].2.2.2.2) := by simpa [Ty.sz] using hcellx 4 b_36
   clear hcellx hlx
   have sx := Ty.bulk_at s0d hlt
   have HP := Lib.hid (show certOk t n now (t.2.2.2)[k] = (decide ((t.2.2.2)[k].1 = n) && (f_FreshAt (t.2.2.2)[k] now && (f_VerifySignature t.1 (t.2.2.2)[k] && decide ((t.2.2.2)[k].2.1 = f_KeyDigest t.1 n)))) from rfl)
   have ky0_0 : (wo.alloc (.cells #[.slice Ax0 (List.length (t.2.2.2)[k].1) cx0, .slice Ax1 (List.length (t.2.2.2)[k].2.1) cx1, .slice Ax2 (List.length (t.2.2.2)[k].2.2.1) cx2, .int .i64 (t.2.2.2)[k].2.2.2.1, .int .i64 (t.2.2.2)[k].2.2.2.2] 34)).cell? ⟨wo.heap.size, 0, none⟩ = some (.slice Ax0 (List.length (t.2.2.2)[k].1) cx0) := (cell_new wo _ _ 0 b_27)
   have ky0_1 : (wo.alloc (.cells #[.slice Ax0 (List.length (t.2.2.2)[k].1) cx0, .slice Ax1 (List.length (t.2.2.2)[k].2.1) cx1, .slice Ax2 (List.length (t.2.2.2)[k].2.2.1) cx2, .int .i64 (t.2.2.2)[k].2.2.2.1, .int .i64 (t.2.2.2)[k].2.2.2.2] 34)).cell? ⟨wo.heap.size, 1, none⟩ = some (.slice Ax1 (List.length (t.2.2.2)[k].2.1) cx1) := (cell_new wo _ _ 1 b_27)
   have ky0_2 : (wo.alloc (.cells #[.slice Ax0 (List.length (t.2.2.2)[k].1) cx0, .slice Ax1 (List.length (t.2.2.2)[k].2.1) cx1, .slice Ax2 (List.length (t.2.2.2)[k].2.2.1) cx2, .int .i64 (t.2.2.2)[k].2.2.2.1, .int .i64 (t.2.2.2)[k].2.2.2.2] 34)).cell? ⟨wo.heap.size, 2, none⟩ = some (.slice Ax2 (List.length (t.2.2.2)[k].2.2.1) cx2) := (cell_new wo _ _ 2 b_27)
   have ky0_3 : (wo.alloc (.cells #[.slice Ax0 (List.length (t.2.2.2)[k].1) cx0, .slice Ax1 (List.length (t.2.2.2)[k].2.1) cx1, .slice Ax2 (List.length (t.2.2.2)[k].2.2.1) cx2, .int .i64 (t.2.2.2)[k].2.2.2.1, .int .i64 (t.2.2.2)[k].2.2.2.2] 34)).cell? ⟨wo.heap.size, 3, none⟩ = some (.int .i64 (t.2.2.2)[k].2.2.2.1) := (cell_new wo _ _ 3 b_27)
   have ky0_4 : (wo.alloc (.cells #[.slice Ax0 (List.length (t.2.2.2)[k].1) cx0, .slice Ax1 (List.length (t.2.2.2)[k].2.1) cx1, .slice Ax2 (List.length (t.2.2.2)[k].2.2.1) cx2, .int .i64 (t.2.2.2)[k].2.2.2.1, .int .i64 (t.2.2.2)[k].2.2.2.2] 34)).cell? ⟨wo.heap.size, 4, none⟩ = some (.int .i64 (t.2.2.2)[k].2.2.2.2) := (cell_new wo _ _ 4 b_27)
   have hvy : Below wo.heap.size wo (wo.alloc (.cells #[.slice Ax0 (List.length (t.2.2.2)[k].1) cx0, .slice Ax1 (List.length (t.2.2.2)[k].2.1) cx1, .slice Ax2 (List.length (t.2.2.2)[k].2.2.1) cx2, .int .i64 (t.2.2.2)[k].2.2.2.1, .int .i64 (t.2.2.2)[k].2.2.2.2] 34)) := b_10
   have zy0 := Lib.hid (show (wo.alloc (.cells #[.slice Ax0 (List.length (t.2.2.2)[k].1) cx0, .slice Ax1 (List.length (t.2.2.2)[k].2.1) cx1, .slice Ax2 (List.length (t.2.2.2)[k].2.2.1) cx2, .int .i64 (t.2.2.2)[k].2.2.2.1, .int .i64 (t.2.2.2)[k].2.2.2.2] 34)).heap.size = wo.heap.size + 1 from by simp only [World.size_alloc])
   have zy : wo.heap.size < (wo.alloc (.cells #[.slice Ax0 (List.length (t.2.2.2)[k].1) cx0, .slice Ax1 (List.length (t.2.2.2)[k].2.1) cx1, .slice Ax2 (List.length (t.2.2.2)[k].2.2.1) cx2, .int .i64 (t.2.2.2)[k].2.2.2.1, .int .i64 (t.2.2.2)[k].2.2.2.2] 34)).heap.size := by simp only [World.size_alloc]; omega
   go_wp2_with fail
   generalize (wo.alloc (.cells #[.slice Ax0 (List.length (t.2.2.2)[k].1) cx0, .slice Ax1 (List.length (t.2.2.2)[k].2.1) cx1, .slice Ax2 (List.length (t.2.2.2)[k].2.2.1) cx2, .int .i64 (t.2.2.2)[k].2.2.2.1, .int .i64 (t.2.2.2)[k].2.2.2.2] 34)) = WY at ky0_0 ky0_1 ky0_2 ky0_3 ky0_4 hvy zy zy0 ⊢
   have HD : Hid (∀ V, Below WY.heap.size WY V → V.cell? ⟨wo.heap.size, 0, none⟩ = some (.slice Ax0 (List.length (t.2.2.2)[k].1) cx0) ∧ V.cell? ⟨wo.heap.size, 1, none⟩ = some (.slice Ax1 (List.length (t.2.2.2)[k].2.1) cx1) ∧ V.cell? ⟨wo.heap.size, 2, none⟩ = some (.slice Ax2 (List.length (t.2.2.2)[k].2.2.1) cx2) ∧ V.cell? ⟨wo.heap.size, 3, none⟩ = some (.int .i64 (t.2.2.2)[k].2.2.2.1) ∧ V.cell? ⟨wo.heap.size, 4, none⟩ = some (.int .i64 (t.2.2.2)[k].2.2.2.2)) := fun V hW => ⟨(hW.cell (p := ⟨wo.heap.size, 0, none⟩) b_34).trans ky0_0, (hW.cell (p := ⟨wo.heap.size, 1, none⟩) b_34).trans ky0_1, (hW.cell (p := ⟨wo.heap.size, 2, none⟩) b_34).trans ky0_2, (hW.cell (p := ⟨wo.heap.size, 3, none⟩) b_34).trans ky0_3, (hW.cell (p := ⟨wo.heap.size, 4, none⟩) b_34).trans ky0_4⟩
   clear ky0_0 ky0_1 ky0_2 ky0_3 ky0_4
   have hv0 : Below WY.heap.size WY WY := Below.refl _ _
   clear e0 e1 e2 e3 e4 j0 j1 j2 j3 j4
   have HH : Hid (∀ W, Below WY.heap.size WY W → Below WY.heap.size WY W ∧ W.cell? ⟨wo.heap.size, 0, none⟩ = some (.slice Ax0 (List.length (t.2.2.2)[k].1) cx0) ∧ W.cell? ⟨wo.heap.size, 1, none⟩ = some (.slice Ax1 (List.length (t.2.2.2)[k].2.1) cx1) ∧ W.cell? ⟨wo.heap.size, 2, none⟩ = some (.slice Ax2 (List.length (t.2.2.2)[k].2.2.1) cx2) ∧ W.cell? ⟨wo.heap.size, 3, none⟩ = some (.int .i64 (t.2.2.2)[k].2.2.2.1) ∧ W.cell? ⟨wo.heap.size, 4, none⟩ = some (.int .i64 (t.2.2.2)[k].2.2.2.2) ∧ W.cell? ⟨w.heap.size + 1, 0, none⟩ = some (.slice An0 (List.length n) cn0) ∧ W.cell? ⟨w.heap.size, 0, none⟩ = some (.slice At0 (List.length t.1) ct0)) := fun W hW => ⟨hW, (HD.out W hW).1, (HD.out W hW).2.1, (HD.out W hW).2.2.1, (HD.out W hW).2.2.2.1, (HD.out W hW).2.2.2.2, (HC.out W (bel_trans hb (bel_trans hvy hW))).2.2.2.2, (HC.out W (bel_trans hb (bel_trans hvy hW))).1⟩
   cases q0 : decide ((t.2.2.2)[k].1 = n)
   ·have HZ := Lib.hid (show certOk t n now (t.2.2.2)[k] = false from by rw [HP.out, q0]; (try simp))
    go_wp2_with fail
    refine wp_region_noPanic ?_
    refine wp_region_held_drew (S := (fun W => Below WY.heap.size WY W ∧ W.cell? ⟨wo.heap.size, 0, none⟩ = some (.slice Ax0 (List.length (t.2.2.2)[k].1) cx0) ∧ W.cell? ⟨wo.heap.size, 1, none⟩ = some (.slice Ax1 (List.length (t.2.2.2)[k].2.1) cx1) ∧ W.cell? ⟨wo.heap.size, 2, none⟩ = some (.slice Ax2 (List.length (t.2.2.2)[k].2.2.1) cx2) ∧ W.cell? ⟨wo.heap.size, 3, none⟩ = some (.int .i64 (t.2.2.2)[k].2.2.2.1) ∧ W.cell? ⟨wo.heap.size, 4, none⟩ = some (.int .i64 (t.2.2.2)[k].2.2.2.2) ∧ W.cell? ⟨w.heap.size + 1, 0, none⟩ = some (.slice An0 (List.length n) cn0) ∧ W.cell? ⟨w.heap.size, 0, none⟩ = some (.slice At0 (List.length t.1) ct0))) b_35 ?_ (fun hHeld => ?_)
    ·exact HH.out _ b_4
    refine tkz3 0 1 2 ?_
    try simp only [layz]
    refine rz1 3 (fun K hK => ?_)
    go_simp
    go_at_call 71
    refine (C_spec_EqualNames _ _ _ _ _ (Ty.rd_below b_4 (Ty.rd_below hvy xg0)) (Ty.rd_below b_4 (Ty.rd_below (bel_trans hw hvy) h2))).mono ?_
    rw [q0]
    rintro e w1 ⟨rfl, hb1⟩
    refine hK.out _ _ (HH.out _ b_4) (fun hHeld => ?_)
    clear hK K
    try simp only [layz]
    refine tkz 4 ?_
    try simp only [layz]
    refine skz 5 ?_
    try simp only [layz]
    refine skz 6 ?_
    try simp only [layz]
    refine skz 7 ?_
    try simp only [layz]
    refine tkz2 8 9 ?_
    try simp only [layz]
    refine skz 10 ?_
    try simp only [layz]
    refine skz 11 ?_
    try simp only [layz]
    refine skz 12 ?_
    try simp only [layz]
    refine skz 13 ?_
    try simp only [layz]
    refine tkz2 14 15 ?_
    try simp only [layz]
    refine skz 16 ?_
    try simp only [layz]
    refine skz 17 ?_
    try simp only [layz]
    refine skz 18 ?_
    try simp only [layz]
    refine skz 19 ?_
    try simp only [layz]
    refine skz 20 ?_
    try simp only [layz]
    refine skz 21 ?_
    try simp only [layz]
    refine skz 22 ?_
    try simp only [layz]
    refine tkz 23 ?_
    try simp only [layz]
    refine wpAnyH_done b_35 ?_ _
    refine NoPanic.normal ?_
    clear q0
    go_wp2
    go_roundw
    case rel => exact ⟨k + 1, by omega, by go_num, by rw [HS.out, HT.out, HZ.out]; rfl, bel_trans hb (bel_trans hvy b_4)⟩
    case measure => simp [intOf]; omega
   cases q1 : f_FreshAt (t.2.2.2)[k] now
   ·have HZ := Lib.hid (show certOk t n now (t.2.2.2)[k] = false from by rw [HP.out, q0, q1]; (try simp))
    go_wp2_with fail
    refine wp_region_noPanic ?_
    refine wp_region_held_drew (S := (fun W => Below WY.heap.size WY W ∧ W.cell? ⟨wo.heap.size, 0, none⟩ = some (.slice Ax0 (List.length (t.2.2.2)[k].1) cx0) ∧ W.cell? ⟨wo.heap.size, 1, none⟩ = some (.slice Ax1 (List.length (t.2.2.2)[k].2.1) cx1) ∧ W.cell? ⟨wo.heap.size, 2, none⟩ = some (.slice Ax2 (List.length (t.2.2.2)[k].2.2.1) cx2) ∧ W.cell? ⟨wo.heap.size, 3, none⟩ = some (.int .i64 (t.2.2.2)[k].2.2.2.1) ∧ W.cell? ⟨wo.heap.size, 4, none⟩ = some (.int .i64 (t.2.2.2)[k].2.2.2.2) ∧ W.cell? ⟨w.heap.size + 1, 0, none⟩ = some (.slice An0 (List.length n) cn0) ∧ W.cell? ⟨w.heap.size, 0, none⟩ = some (.slice At0 (List.length t.1) ct0))) b_35 ?_ (fun hHeld => ?_)
    ·exact HH.out _ b_4
    refine tkz3 0 1 2 ?_
    try simp only [layz]
    refine rz1 3 (fun K hK => ?_)
    go_simp
    go_at_call 71
    refine (C_spec_EqualNames _ _ _ _ _ (Ty.rd_below b_4 (Ty.rd_below hvy xg0)) (Ty.rd_below b_4 (Ty.rd_below (bel_trans hw hvy) h2))).mono ?_
    rw [q0]
    rintro e w1 ⟨rfl, hb1⟩
    refine hK.out _ _ (HH.out _ b_4) (fun hHeld => ?_)
    clear hK K
    try simp only [layz]
    refine tkz3 4 5 6 ?_
    try simp only [layz]
    refine rz1 7 (fun K hK => ?_)
    go_simp
    go_at_call 72
    refine (C_spec_FreshAt _ _ (t.2.2.2)[k] now (Ty.rd_below b_4 (Ty.rd_below hvy hx')) sx i2).mono ?_
    rw [q1]
    rintro e w2 ⟨rfl, hb2⟩
    refine hK.out _ _ (HH.out _ b_4) (fun hHeld => ?_)
    clear hK K
    try simp only [layz]
    refine tkz2 8 9 ?_
    try simp only [layz]
    refine skz 10 ?_
    try simp only [layz]
    refine skz 11 ?_
    try simp only [layz]
    refine skz 12 ?_
    try simp only [layz]
    refine skz 13 ?_
    try simp only [layz]
    refine tkz2 14 15 ?_
    try simp only [layz]
    refine skz 16 ?_
    try simp only [layz]
    refine skz 17 ?_
    try simp only [layz]
    refine skz 18 ?_
    try simp only [layz]
    refine skz 19 ?_
    try simp only [layz]
    refine skz 20 ?_
    try simp only [layz]
    refine skz 21 ?_
    try simp only [layz]
    refine skz 22 ?_
    try simp only [layz]
    refine tkz 23 ?_
    try simp only [layz]
    refine wpAnyH_done b_35 ?_ _
    refine NoPanic.normal ?_
    clear q0 q1
    go_wp2
    go_roundw
    case rel => exact ⟨k + 1, by omega, by go_num, by rw [HS.out, HT.out, HZ.out]; rfl, bel_trans hb (bel_trans hvy b_4)⟩
    case measure => simp [intOf]; omega
   cases q2 : f_VerifySignature t.1 (t.2.2.2)[k]
   ·have HZ := Lib.hid (show certOk t n now (t.2.2.2)[k] = false from by rw [HP.out, q0, q1, q2]; (try simp))
    go_wp2_with fail
    refine wp_region_noPanic ?_
    refine wp_region_held_drew (S := (fun W => Below WY.heap.size WY W ∧ W.cell? ⟨wo.heap.size, 0, none⟩ = some (.slice Ax0 (List.length (t.2.2.2)[k].1) cx0) ∧ W.cell? ⟨wo.heap.size, 1, none⟩ = some (.slice Ax1 (List.length (t.2.2.2)[k].2.1) cx1) ∧ W.cell? ⟨wo.heap.size, 2, none⟩ = some (.slice Ax2 (List.length (t.2.2.2)[k].2.2.1) cx2) ∧ W.cell? ⟨wo.heap.size, 3, none⟩ = some (.int .i64 (t.2.2.2)[k].2.2.2.1) ∧ W.cell? ⟨wo.heap.size, 4, none⟩ = some (.int .i64 (t.2.2.2)[k].2.2.2.2) ∧ W.cell? ⟨w.heap.size + 1, 0, none⟩ = some (.slice An0 (List.length n) cn0) ∧ W.cell? ⟨w.heap.size, 0, none⟩ = some (.slice At0 (List.length t.1) ct0))) b_35 ?_ (fun hHeld => ?_)
    ·exact HH.out _ b_4
    refine tkz3 0 1 2 ?_
    try simp only [layz]
    refine rz1 3 (fun K hK => ?_)
    go_simp
    go_at_call 71
    refine (C_spec_EqualNames _ _ _ _ _ (Ty.rd_below b_4 (Ty.rd_below hvy xg0)) (Ty.rd_below b_4 (Ty.rd_below (bel_trans hw hvy) h2))).mono ?_
    rw [q0]
    rintro e w1 ⟨rfl, hb1⟩
    refine hK.out _ _ (HH.out _ b_4) (fun hHeld => ?_)
    clear hK K
    try simp only [layz]
    refine tkz3 4 5 6 ?_
    try simp only [layz]
    refine rz1 7 (fun K hK => ?_)
    go_simp
    go_at_call 72
    refine (C_spec_FreshAt _ _ (t.2.2.2)[k] now (Ty.rd_below b_4 (Ty.rd_below hvy hx')) sx i2).mono ?_
    rw [q1]
    rintro e w2 ⟨rfl, hb2⟩
    refine hK.out _ _ (HH.out _ b_4) (fun hHeld => ?_)
    clear hK K
    try simp only [layz]
    refine tkz4 8 9 10 11 ?_
    try simp only [layz]
    refine tkz 12 ?_
    try simp only [layz]
    refine rz1 13 (fun K hK => ?_)
    go_simp
    go_at_call 42
    refine (C_spec_VerifySignature _ _ t.1 _ (t.2.2.2)[k] (Ty.rd_below b_4 (Ty.rd_below (bel_trans hw hvy) tg0)) (Ty.rd_below b_4 (Ty.rd_below hvy hx')) s0a sx).mono ?_
    rw [q2]
    rintro e w3 ⟨rfl, hb3⟩
    refine hK.out _ _ (HH.out _ b_4) (fun hHeld => ?_)
    clear hK K
    try simp only [layz]
    refine tkz2 14 15 ?_
    try simp only [layz]
    refine skz 16 ?_
    try simp only [layz]
    refine skz 17 ?_
    try simp only [layz]
    refine skz 18 ?_
    try simp only [layz]
    refine skz 19 ?_
    try simp only [layz]
    refine skz 20 ?_
    try simp only [layz]
    refine skz 21 ?_
    try simp only [layz]
    refine skz 22 ?_
    try simp only [layz]
    refine tkz 23 ?_
    try simp only [layz]
    refine wpAnyH_done b_35 ?_ _
    refine NoPanic.normal ?_
    clear q0 q1 q2
    go_wp2
    go_roundw
    case rel => exact ⟨k + 1, by omega, by go_num, by rw [HS.out, HT.out, HZ.out]; rfl, bel_trans hb (bel_trans hvy b_4)⟩
    case measure => simp [intOf]; omega
   cases q3 : decide ((t.2.2.2)[k].2.1 = f_KeyDigest t.1 n)
   ·have HZ := Lib.hid (show certOk t n now (t.2.2.2)[k] = false from by rw [HP.out, q0, q1, q2, q3]; (try simp))
    go_wp2_with fail
    refine wp_region_noPanic ?_
    refine wp_region_held_drew (S := (fun W => Below WY.heap.size WY W ∧ W.cell? ⟨wo.heap.size, 0, none⟩ = some (.slice Ax0 (List.length (t.2.2.2)[k].1) cx0) ∧ W.cell? ⟨wo.heap.size, 1, none⟩ = some (.slice Ax1 (List.length (t.2.2.2)[k].2.1) cx1) ∧ W.cell? ⟨wo.heap.size, 2, none⟩ = some (.slice Ax2 (List.length (t.2.2.2)[k].2.2.1) cx2) ∧ W.cell? ⟨wo.heap.size, 3, none⟩ = some (.int .i64 (t.2.2.2)[k].2.2.2.1) ∧ W.cell? ⟨wo.heap.size, 4, none⟩ = some (.int .i64 (t.2.2.2)[k].2.2.2.2) ∧ W.cell? ⟨w.heap.size + 1, 0, none⟩ = some (.slice An0 (List.length n) cn0) ∧ W.cell? ⟨w.heap.size, 0, none⟩ = some (.slice At0 (List.length t.1) ct0))) b_35 ?_ (fun hHeld => ?_)
    ·exact HH.out _ b_4
    refine tkz3 0 1 2 ?_
    try simp only [layz]
    refine rz1 3 (fun K hK => ?_)
    go_simp
    go_at_call 71
    refine (C_spec_EqualNames _ _ _ _ _ (Ty.rd_below b_4 (Ty.rd_below hvy xg0)) (Ty.rd_below b_4 (Ty.rd_below (bel_trans hw hvy) h2))).mono ?_
    rw [q0]
    rintro e w1 ⟨rfl, hb1⟩
    refine hK.out _ _ (HH.out _ b_4) (fun hHeld => ?_)
    clear hK K
    try simp only [layz]
    refine tkz3 4 5 6 ?_
    try simp only [layz]
    refine rz1 7 (fun K hK => ?_)
    go_simp
    go_at_call 72
    refine (C_spec_FreshAt _ _ (t.2.2.2)[k] now (Ty.rd_below b_4 (Ty.rd_below hvy hx')) sx i2).mono ?_
    rw [q1]
    rintro e w2 ⟨rfl, hb2⟩
    refine hK.out _ _ (HH.out _ b_4) (fun hHeld => ?_)
    clear hK K
    try simp only [layz]
    refine tkz4 8 9 10 11 ?_
    try simp only [layz]
    refine tkz 12 ?_
    try simp only [layz]
    refine rz1 13 (fun K hK => ?_)
    go_simp
    go_at_call 42
    refine (C_spec_VerifySignature _ _ t.1 _ (t.2.2.2)[k] (Ty.rd_below b_4 (Ty.rd_below (bel_trans hw hvy) tg0)) (Ty.rd_below b_4 (Ty.rd_below hvy hx')) s0a sx).mono ?_
    rw [q2]
    rintro e w3 ⟨rfl, hb3⟩
    refine hK.out _ _ (HH.out _ b_4) (fun hHeld => ?_)
    clear hK K
    try simp only [layz]
    refine tkz4 14 15 16 17 ?_
    try simp only [layz]
    refine tkz3 18 19 20 ?_
    try simp only [layz]
    refine rz1 21 (fun K hK => ?_)
    go_simp
    go_at_call 28
    refine (C_spec_KeyDigest _ _ t.1 _ n (Ty.rd_below b_4 (Ty.rd_below (bel_trans hw hvy) tg0)) (Ty.rd_below b_4 (Ty.rd_below (bel_trans hw hvy) h2)) s0a s1).mono ?_
    rintro e w4 ⟨A4, c4, fp4, rfl, how4, hfr4, hb4⟩
    refine hK.out _ _ (HH.out _ b_4) (fun hHeld => ?_)
    clear hK K
    try simp only [layz]
    refine rz1 22 (fun K hK => ?_)
    go_simp
    go_at_call 73
    refine (C_spec_EqualBytes _ _ _ (t.2.2.2)[k].2.1 (f_KeyDigest t.1 n) (Ty.rd_below b_4 (Ty.rd_below hvy xg1)) (Ty.rd_below b_4 (Ty.ow_rd how4))).mono ?_
    rw [q3]
    rintro e w5 ⟨rfl, hb5⟩
    refine hK.out _ _ (HH.out _ b_4) (fun hHeld => ?_)
    clear hK K
    try simp only [layz]
    refine tkz 23 ?_
    try simp only [layz]
    refine wpAnyH_done b_35 ?_ _
    refine NoPanic.normal ?_
    clear q0 q1 q2 q3
    go_wp2
    go_roundw
    case rel => exact ⟨k + 1, by omega, by go_num, by rw [HS.out, HT.out, HZ.out]; rfl, bel_trans hb (bel_trans hvy b_4)⟩
    case measure => simp [intOf]; omega
   have HZ := Lib.hid (show certOk t n now (t.2.2.2)[k] = true from by rw [HP.out, q0, q1, q2, q3]; rfl)
   go_wp2_with fail
   refine wp_region_noPanic ?_
   refine wp_region_held_drew (S := (fun W => Below WY.heap.size WY W ∧ W.cell? ⟨wo.heap.size, 0, none⟩ = some (.slice Ax0 (List.length (t.2.2.2)[k].1) cx0) ∧ W.cell? ⟨wo.heap.size, 1, none⟩ = some (.slice Ax1 (List.length (t.2.2.2)[k].2.1) cx1) ∧ W.cell? ⟨wo.heap.size, 2, none⟩ = some (.slice Ax2 (List.length (t.2.2.2)[k].2.2.1) cx2) ∧ W.cell? ⟨wo.heap.size, 3, none⟩ = some (.int .i64 (t.2.2.2)[k].2.2.2.1) ∧ W.cell? ⟨wo.heap.size, 4, none⟩ = some (.int .i64 (t.2.2.2)[k].2.2.2.2) ∧ W.cell? ⟨w.heap.size + 1, 0, none⟩ = some (.slice An0 (List.length n) cn0) ∧ W.cell? ⟨w.heap.size, 0, none⟩ = some (.slice At0 (List.length t.1) ct0))) b_35 ?_ (fun hHeld => ?_)
   ·exact HH.out _ b_4
   refine tkz3 0 1 2 ?_
   try simp only [layz]
   refine rz1 3 (fun K hK => ?_)
   go_simp
   go_at_call 71
   refine (C_spec_EqualNames _ _ _ _ _ (Ty.rd_below b_4 (Ty.rd_below hvy xg0)) (Ty.rd_below b_4 (Ty.rd_below (bel_trans hw hvy) h2))).mono ?_
   rw [q0]
   rintro e w1 ⟨rfl, hb1⟩
   refine hK.out _ _ (HH.out _ b_4) (fun hHeld => ?_)
   clear hK K
   try simp only [layz]
   refine tkz3 4 5 6 ?_
   try simp only [layz]
   refine rz1 7 (fun K hK => ?_)
   go_simp
   go_at_call 72
   refine (C_spec_FreshAt _ _ (t.2.2.2)[k] now (Ty.rd_below b_4 (Ty.rd_below hvy hx')) sx i2).mono ?_
   rw [q1]
   rintro e w2 ⟨rfl, hb2⟩
   refine hK.out _ _ (HH.out _ b_4) (fun hHeld => ?_)
   clear hK K
   try simp only [layz]
   refine tkz4 8 9 10 11 ?_
   try simp only [layz]
   refine tkz 12 ?_
   try simp only [layz]
   refine rz1 13 (fun K hK => ?_)
   go_simp
   go_at_call 42
   refine (C_spec_VerifySignature _ _ t.1 _ (t.2.2.2)[k] (Ty.rd_below b_4 (Ty.rd_below (bel_trans hw hvy) tg0)) (Ty.rd_below b_4 (Ty.rd_below hvy hx')) s0a sx).mono ?_
   rw [q2]
   rintro e w3 ⟨rfl, hb3⟩
   refine hK.out _ _ (HH.out _ b_4) (fun hHeld => ?_)
   clear hK K
   try simp only [layz]
   refine tkz4 14 15 16 17 ?_
   try simp only [layz]
   refine tkz3 18 19 20 ?_
   try simp only [layz]
   refine rz1 21 (fun K hK => ?_)
   go_simp
   go_at_call 28
   refine (C_spec_KeyDigest _ _ t.1 _ n (Ty.rd_below b_4 (Ty.rd_below (bel_trans hw hvy) tg0)) (Ty.rd_below b_4 (Ty.rd_below (bel_trans hw hvy) h2)) s0a s1).mono ?_
   rintro e w4 ⟨A4, c4, fp4, rfl, how4, hfr4, hb4⟩
   refine hK.out _ _ (HH.out _ b_4) (fun hHeld => ?_)
   clear hK K
   try simp only [layz]
   refine rz1 22 (fun K hK => ?_)
   go_simp
   go_at_call 73
   refine (C_spec_EqualBytes _ _ _ (t.2.2.2)[k].2.1 (f_KeyDigest t.1 n) (Ty.rd_below b_4 (Ty.rd_below hvy xg1)) (Ty.rd_below b_4 (Ty.ow_rd how4))).mono ?_
   rw [q3]
   rintro e w5 ⟨rfl, hb5⟩
   refine hK.out _ _ (HH.out _ b_4) (fun hHeld => ?_)
   clear hK K
   try simp only [layz]
   refine tkz 23 ?_
   try simp only [layz]
   refine wpAnyH_done b_35 ?_ _
   refine NoPanic.normal ?_
   clear q0 q1 q2 q3
   go_wp2
   go_ret
   exact ⟨ret_int (by rw [HF.out, ixf_hit (certOk t n now) t.2.2.2 hlt HT.out HZ.out]), bel_trans hw (bel_trans hvy b_4)⟩
  ·have HE : Hid (List.any t.2.2.2 (certOk t n now) = false) := by have := HT.out; rwa [List.take_of_length_le b_37] at this
   go_wp2
   go_ret
   exact ⟨ret_int (by rw [HF.out, ixf_miss (certOk t n now) t.2.2.2 HE.out]), hw⟩
end Go.Proofs.YtldgbnlcnlfmeaaGreat
