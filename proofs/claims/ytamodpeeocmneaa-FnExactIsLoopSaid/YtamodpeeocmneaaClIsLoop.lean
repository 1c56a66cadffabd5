/- Proved here: the given statement FnExactIsLoopSaid: the law returns true for all arguments, and they read afterwards as before. Conditions: none. Printed by a program. -/
import Derived.Test.YtamodpeeocmneaaOpn
import Derived.Test.YtamodpeeocmneaaLIsLoop
import Derived.ShutString
namespace Go.Proofs.Ytamodpeeocmneaa.clIsLoop
open Go.ChangeShapes Go.WideShapes Go.ChangeAt Go.RowKit
set_option linter.unusedVariables false

theorem own : ownKnob Try.prog.godebug = none := by kernel_rfl
theorem laidOut : laidOutB Try.prog = true := by kernel_rfl
section
variable {H : Type} {enc : TypeId × Value → H} {w : World} {base : Nat} {spare : Nat → Bool} {held : Bool}
theorem o_string : Opens enc Try.prog w base spare held 9 .str := opens_str Try.underlying9
theorem o_StringS : Opens enc Try.prog w base spare held 22 (.sl .str) := opens_sl Try.underlying22 (by kernel_rfl) (by decide) o_string
theorem o_Name : Opens enc Try.prog w base spare held 24 (.sl .str) := opens_struct (ts := [(.sl .str)]) Try.underlying24 (by kernel_rfl) ⟨o_StringS, trivial⟩
theorem o_int : Opens enc Try.prog w base spare held 3 .int := opens_int Try.underlying3
theorem o_Requester : Opens enc Try.prog w base spare held 164 tRequester := opens_struct (ts := [.int, .int, .int]) Try.underlying164 (by kernel_rfl) ⟨o_int, o_int, o_int, trivial⟩
theorem o_RequesterS : Opens enc Try.prog w base spare held 119 (.sl tRequester) := opens_sl Try.underlying119 (by kernel_rfl) (by decide) o_Requester
theorem o_PendingInterest : Opens enc Try.prog w base spare held 121 tPendingInterest := opens_struct (ts := [(.sl .str), (.sl tRequester), .int]) Try.underlying121 (by kernel_rfl) ⟨o_Name, o_RequesterS, o_int, trivial⟩
theorem o_PendingInterestS : Opens enc Try.prog w base spare held 69 (.sl tPendingInterest) := opens_sl Try.underlying69 (by kernel_rfl) (by decide) o_PendingInterest
theorem o_SeenNonce : Opens enc Try.prog w base spare held 111 tSeenNonce := opens_struct (ts := [(.sl .str), .int]) Try.underlying111 (by kernel_rfl) ⟨o_Name, o_int, trivial⟩
theorem o_SeenNonceS : Opens enc Try.prog w base spare held 61 (.sl tSeenNonce) := opens_sl Try.underlying61 (by kernel_rfl) (by decide) o_SeenNonce
theorem o_Interest : Opens enc Try.prog w base spare held 84 tInterest := opens_struct (ts := [(.sl .str), .int, .int, .int]) Try.underlying84 (by kernel_rfl) ⟨o_Name, o_int, o_int, o_int, trivial⟩
end

set_option maxRecDepth 100000 in
theorem lifted (os : Os) (started : os.Started) (H : Type) (enc : TypeId × Value → H) :
    ReturnsInHanded {} Try.checked os 14 .any (Rows.fnExactIsLoopSpec.pre6 enc Try.prog Try.f14 Rows.fnExactIsLoopRow.domain false) (Rows.fnExactIsLoopSpec.post enc Try.prog Try.f14 false true false false) := by
  refine returnsInHanded_of_change (C := Try.checked) own started (by kernel_rfl) Try.func14
    (ChangeSpec.witness6 (enc := enc) (C := Try.checked) false ⟨#[], #[.slice none 0 0, .slice none 0 0, .agg #[.slice none 0 0, .int .i64 0, .int .i64 0, .int .i64 0]], []⟩ 8 (by kernel_rfl) (by kernel_rfl) (by kernel_rfl) (by kernel_rfl)) ?_
  intro W base args ds gs before hval0 hW hcnd _
  have hval : ∀ (j : Nat) t v, Try.f14.params[j]? = some t → args[j]? = some v → Value.okWide Try.prog W .any base t v := hval0
  have hW' := hW
  obtain ⟨p, q, hA0, hV, rfl, hfz, hnd⟩ := hW
  have hA : DataW.TrodAll enc Try.prog W 0 (fun _ => true) true Try.f14.params.toList args.toList ds p := hA0
  rw [Try.params14] at hA hval
  obtain ⟨v0, vs0, d0, ds0, p0, q0, hargs, rfl, rfl, h0, r0⟩ := trodAll_cons hA
  obtain ⟨v1, vs1, d1, ds1, p1, q1, rfl, rfl, rfl, h1, r1⟩ := trodAll_cons r0
  obtain ⟨v2, vs2, d2, ds2, p2, q2, rfl, rfl, rfl, h2, r2⟩ := trodAll_cons r1
  obtain ⟨rfl, rfl, rfl⟩ := trodAll_nil r2
  obtain rfl : args = #[v0, v1, v2] := by cases args; simp_all
  obtain ⟨rfl, rfl⟩ := trodVars_none hV
  have k0 := h0
  have lt0 : ∀ x ∈ p0, x.block < W.heap.size := by obtain ⟨m, hm⟩ := k0; exact DataW.trod_lt m _ _ _ hm
  obtain ⟨A0, n0, c0, rfl⟩ := okWide_slice Try.underlying69 (hval 0 69 v0 rfl rfl)
  obtain ⟨f0, g0⟩ := h0
  obtain ⟨x0, xh0⟩ := o_PendingInterestS _ _ _ g0
  have k1 := h1
  have lt1 : ∀ x ∈ p1, x.block < W.heap.size := by obtain ⟨m, hm⟩ := k1; exact DataW.trod_lt m _ _ _ hm
  obtain ⟨A1, n1, c1, rfl⟩ := okWide_slice Try.underlying61 (hval 1 61 v1 rfl rfl)
  obtain ⟨f1, g1⟩ := h1
  obtain ⟨x1, xh1⟩ := o_SeenNonceS _ _ _ g1
  have k2 := h2
  have lt2 : ∀ x ∈ p2, x.block < W.heap.size := by obtain ⟨m, hm⟩ := k2; exact DataW.trod_lt m _ _ _ hm
  obtain ⟨c2, rfl, hs2⟩ := okWide_struct Try.underlying84 (hval 2 84 v2 rfl rfl)
  obtain ⟨f2, g2⟩ := h2
  obtain ⟨x2, xh2⟩ := o_Interest _ _ _ g2
  clear hA0 hval0
  refine (L_IsLoop W _ x0 xh0 _ x1 xh1 c2.toList x2 xh2).mono fun e W' ⟨he, bel⟩ => ?_
  subst he
  exact ⟨_, rfl, _, _, _, [], _, [], hW', trodAll_mk1 (shut_bool Try.underlying4 _), (trodAll_cons_mk (Below.trod laidOut (by kernel_rfl) (of_decide_eq_true (by kernel_rfl)) k0 bel lt0) (trodAll_cons_mk (Below.trod laidOut (by kernel_rfl) (of_decide_eq_true (by kernel_rfl)) k1 bel lt1) (trodAll_cons_mk (Below.trod laidOut (by kernel_rfl) (of_decide_eq_true (by kernel_rfl)) k2 bel lt2) trodAll_mk0))), rfl, bel.frame _, fun h => by cases h⟩

theorem proved : Rows.FnExactIsLoopSaid :=
  OpenClaim.holds_of_wide 14 Try.f14 rfl rfl rfl rfl rfl rfl rfl ⟨rfl, rfl, rfl, rfl, rfl⟩ rfl rfl rfl rfl rfl (by kernel_rfl) Try.func14 (by kernel_rfl)
    (of_decide_eq_true (by kernel_rfl)) (by unfold Func.isWrapper; first | (rw [if_pos (by decide +kernel)]; kernel_rfl) | (rw [if_neg (by decide +kernel)]; exact ⟨rfl, rfl⟩))
    (fun os started H enc _ => lifted os started H enc)
end Go.Proofs.Ytamodpeeocmneaa.clIsLoop
