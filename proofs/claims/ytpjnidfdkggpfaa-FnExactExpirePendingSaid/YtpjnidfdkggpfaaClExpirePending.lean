/- Proved here: the given statement FnExactExpirePendingSaid: the law returns true for all arguments, and they read afterwards as before. Conditions: none. Printed by a program. -/
import Derived.Test.YtpjnidfdkggpfaaOpn
import Derived.Test.YtpjnidfdkggpfaaLExpirePending
import Derived.ShutString
namespace Go.Proofs.Ytpjnidfdkggpfaa.clExpirePending
open Go.ChangeShapes Go.WideShapes Go.ChangeAt Go.RowKit
set_option linter.unusedVariables false

theorem own : ownKnob Try.prog.godebug = none := by kernel_rfl
theorem laidOut : laidOutB Try.prog = true := by kernel_rfl
section
variable {H : Type} {enc : TypeId × Value → H} {w : World} {base : Nat} {spare : Nat → Bool} {held : Bool}
theorem o_string : Opens enc Try.prog w base spare held 9 .str := opens_str Try.underlying9
theorem o_StringS : Opens enc Try.prog w base spare held 38 (.sl .str) := opens_sl Try.underlying38 (by kernel_rfl) (by decide) o_string
theorem o_Name : Opens enc Try.prog w base spare held 40 (.sl .str) := opens_struct (ts := [(.sl .str)]) Try.underlying40 (by kernel_rfl) ⟨o_StringS, trivial⟩
theorem o_int : Opens enc Try.prog w base spare held 3 .int := opens_int Try.underlying3
theorem o_Requester : Opens enc Try.prog w base spare held 90 tRequester := opens_struct (ts := [.int, .int, .int]) Try.underlying90 (by kernel_rfl) ⟨o_int, o_int, o_int, trivial⟩
theorem o_RequesterS : Opens enc Try.prog w base spare held 51 (.sl tRequester) := opens_sl Try.underlying51 (by kernel_rfl) (by decide) o_Requester
theorem o_PendingInterest : Opens enc Try.prog w base spare held 53 tPendingInterest := opens_struct (ts := [(.sl .str), (.sl tRequester), .int]) Try.underlying53 (by kernel_rfl) ⟨o_Name, o_RequesterS, o_int, trivial⟩
theorem o_PendingInterestS : Opens enc Try.prog w base spare held 29 (.sl tPendingInterest) := opens_sl Try.underlying29 (by kernel_rfl) (by decide) o_PendingInterest
end

set_option maxRecDepth 100000 in
theorem lifted (os : Os) (started : os.Started) (H : Type) (enc : TypeId × Value → H) :
    ReturnsInHanded {} Try.checked os 4 .any (Rows.fnExactExpirePendingSpec.pre6 enc Try.prog Try.f4 Rows.fnExactExpirePendingRow.domain false) (Rows.fnExactExpirePendingSpec.post enc Try.prog Try.f4 false true false false) := by
  refine returnsInHanded_of_change (C := Try.checked) own started (by kernel_rfl) Try.func4
    (ChangeSpec.witness6 (enc := enc) (C := Try.checked) false ⟨#[], #[.slice none 0 0, .int .i64 0], []⟩ 8 (by kernel_rfl) (by kernel_rfl) (by kernel_rfl) (by kernel_rfl)) ?_
  intro W base args ds gs before hval0 hW hcnd _
  have hval : ∀ (j : Nat) t v, Try.f4.params[j]? = some t → args[j]? = some v → Value.okWide Try.prog W .any base t v := hval0
  have hW' := hW
  obtain ⟨p, q, hA0, hV, rfl, hfz, hnd⟩ := hW
  have hA : DataW.TrodAll enc Try.prog W 0 (fun _ => true) true Try.f4.params.toList args.toList ds p := hA0
  rw [Try.params4] at hA hval
  obtain ⟨v0, vs0, d0, ds0, p0, q0, hargs, rfl, rfl, h0, r0⟩ := trodAll_cons hA
  obtain ⟨v1, vs1, d1, ds1, p1, q1, rfl, rfl, rfl, h1, r1⟩ := trodAll_cons r0
  obtain ⟨rfl, rfl, rfl⟩ := trodAll_nil r1
  obtain rfl : args = #[v0, v1] := by cases args; simp_all
  obtain ⟨rfl, rfl⟩ := trodVars_none hV
  have k0 := h0
  have lt0 : ∀ x ∈ p0, x.block < W.heap.size := by obtain ⟨m, hm⟩ := k0; exact DataW.trod_lt m _ _ _ hm
  obtain ⟨A0, n0, c0, rfl⟩ := okWide_slice Try.underlying29 (hval 0 29 v0 rfl rfl)
  obtain ⟨f0, g0⟩ := h0
  obtain ⟨x0, xh0⟩ := o_PendingInterestS _ _ _ g0
  have k1 := h1
  have lt1 : ∀ x ∈ p1, x.block < W.heap.size := by obtain ⟨m, hm⟩ := k1; exact DataW.trod_lt m _ _ _ hm
  obtain ⟨a1, rfl, rfl, rfl, wf1⟩ := open_int Try.underlying3 (hval 1 3 v1 rfl rfl) h1
  clear hA0 hval0
  refine (L_ExpirePending W _ x0 xh0 a1 (bounds_i64 wf1)).mono fun e W' ⟨he, bel⟩ => ?_
  subst he
  exact ⟨_, rfl, _, _, _, [], _, [], hW', trodAll_mk1 (shut_bool Try.underlying4 _), (trodAll_cons_mk (Below.trod laidOut (by kernel_rfl) (of_decide_eq_true (by kernel_rfl)) k0 bel lt0) (trodAll_cons_mk (shut_int Try.underlying3 wf1) trodAll_mk0)), rfl, bel.frame _, fun h => by cases h⟩

theorem proved : Rows.FnExactExpirePendingSaid :=
  OpenClaim.holds_of_wide 4 Try.f4 rfl rfl rfl rfl rfl rfl rfl ⟨rfl, rfl, rfl, rfl, rfl⟩ rfl rfl rfl rfl rfl (by kernel_rfl) Try.func4 (by kernel_rfl)
    (of_decide_eq_true (by kernel_rfl)) (by unfold Func.isWrapper; first | (rw [if_pos (by decide +kernel)]; kernel_rfl) | (rw [if_neg (by decide +kernel)]; exact ⟨rfl, rfl⟩))
    (fun os started H enc _ => lifted os started H enc)
end Go.Proofs.Ytpjnidfdkggpfaa.clExpirePending
