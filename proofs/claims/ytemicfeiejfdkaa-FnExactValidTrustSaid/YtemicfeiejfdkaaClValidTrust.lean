/- Proved here: the given statement FnExactValidTrustSaid: the law returns true for all arguments, and they read afterwards as before. Conditions: none. Printed by a program. -/
import Derived.Test.YtemicfeiejfdkaaOpn
import Derived.Test.YtemicfeiejfdkaaLValidTrust
import Derived.ShutString
namespace Go.Proofs.Ytemicfeiejfdkaa.clValidTrust
open Go.ChangeShapes Go.WideShapes Go.ChangeAt Go.RowKit
set_option linter.unusedVariables false

theorem own : ownKnob Try.prog.godebug = none := by kernel_rfl
theorem laidOut : laidOutB Try.prog = true := by kernel_rfl
section
variable {H : Type} {enc : TypeId × Value → H} {w : World} {base : Nat} {spare : Nat → Bool} {held : Bool}
theorem o_string : Opens enc Try.prog w base spare held 9 .str := opens_str Try.underlying9
theorem o_StringS : Opens enc Try.prog w base spare held 43 (.sl .str) := opens_sl Try.underlying43 (by kernel_rfl) (by decide) o_string
theorem o_Name : Opens enc Try.prog w base spare held 45 (.sl .str) := opens_struct (ts := [(.sl .str)]) Try.underlying45 (by kernel_rfl) ⟨o_StringS, trivial⟩
theorem o_int : Opens enc Try.prog w base spare held 3 .int := opens_int Try.underlying3
theorem o_Key : Opens enc Try.prog w base spare held 145 tKey := opens_struct (ts := [(.sl .str), .int]) Try.underlying145 (by kernel_rfl) ⟨o_Name, o_int, trivial⟩
theorem o_KeyS : Opens enc Try.prog w base spare held 66 (.sl tKey) := opens_sl Try.underlying66 (by kernel_rfl) (by decide) o_Key
theorem o_Pattern : Opens enc Try.prog w base spare held 147 (.sl .str) := opens_struct (ts := [(.sl .str)]) Try.underlying147 (by kernel_rfl) ⟨o_StringS, trivial⟩
theorem o_Rule : Opens enc Try.prog w base spare held 149 tRule := opens_struct (ts := [(.sl .str), (.sl .str)]) Try.underlying149 (by kernel_rfl) ⟨o_Pattern, o_Pattern, trivial⟩
theorem o_RuleS : Opens enc Try.prog w base spare held 67 (.sl tRule) := opens_sl Try.underlying67 (by kernel_rfl) (by decide) o_Rule
theorem o_NameS : Opens enc Try.prog w base spare held 68 (.sl (.sl .str)) := opens_sl Try.underlying68 (by kernel_rfl) (by decide) o_Name
theorem o_byte : Opens enc Try.prog w base spare held 5 .byte := opens_byte Try.underlying5
theorem o_ByteS : Opens enc Try.prog w base spare held 48 (.sl .byte) := opens_sl Try.underlying48 (by kernel_rfl) (by decide) o_byte
theorem o_Data : Opens enc Try.prog w base spare held 61 tData := opens_struct (ts := [(.sl .str), (.sl .byte), (.sl .str), .int, .int]) Try.underlying61 (by kernel_rfl) ⟨o_Name, o_ByteS, o_Name, o_int, o_int, trivial⟩
theorem o_DataS : Opens enc Try.prog w base spare held 69 (.sl tData) := opens_sl Try.underlying69 (by kernel_rfl) (by decide) o_Data
theorem o_TrustPolicy : Opens enc Try.prog w base spare held 71 tTrustPolicy := opens_struct (ts := [(.sl tKey), (.sl tRule), (.sl (.sl .str)), (.sl tData)]) Try.underlying71 (by kernel_rfl) ⟨o_KeyS, o_RuleS, o_NameS, o_DataS, trivial⟩
end

set_option maxRecDepth 100000 in
theorem lifted (os : Os) (started : os.Started) (H : Type) (enc : TypeId × Value → H) :
    ReturnsInHanded {} Try.checked os 12 .any (Rows.fnExactValidTrustSpec.pre6 enc Try.prog Try.f12 Rows.fnExactValidTrustRow.domain false) (Rows.fnExactValidTrustSpec.post enc Try.prog Try.f12 false true false false) := by
  refine returnsInHanded_of_change (C := Try.checked) own started (by kernel_rfl) Try.func12
    (ChangeSpec.witness6 (enc := enc) (C := Try.checked) false ⟨#[], #[.agg #[.slice none 0 0, .slice none 0 0, .slice none 0 0, .slice none 0 0]], []⟩ 8 (by kernel_rfl) (by kernel_rfl) (by kernel_rfl) (by kernel_rfl)) ?_
  intro W base args ds gs before hval0 hW hcnd _
  have hval : ∀ (j : Nat) t v, Try.f12.params[j]? = some t → args[j]? = some v → Value.okWide Try.prog W .any base t v := hval0
  have hW' := hW
  obtain ⟨p, q, hA0, hV, rfl, hfz, hnd⟩ := hW
  have hA : DataW.TrodAll enc Try.prog W 0 (fun _ => true) true Try.f12.params.toList args.toList ds p := hA0
  rw [Try.params12] at hA hval
  obtain ⟨v0, vs0, d0, ds0, p0, q0, hargs, rfl, rfl, h0, r0⟩ := trodAll_cons hA
  obtain ⟨rfl, rfl, rfl⟩ := trodAll_nil r0
  obtain rfl : args = #[v0] := by cases args; simp_all
  obtain ⟨rfl, rfl⟩ := trodVars_none hV
  have k0 := h0
  have lt0 : ∀ x ∈ p0, x.block < W.heap.size := by obtain ⟨m, hm⟩ := k0; exact DataW.trod_lt m _ _ _ hm
  obtain ⟨c0, rfl, hs0⟩ := okWide_struct Try.underlying71 (hval 0 71 v0 rfl rfl)
  obtain ⟨f0, g0⟩ := h0
  obtain ⟨x0, xh0⟩ := o_TrustPolicy _ _ _ g0
  clear hA0 hval0
  refine (L_ValidTrust W c0.toList x0 xh0).mono fun e W' ⟨he, bel⟩ => ?_
  subst he
  exact ⟨_, rfl, _, _, _, [], _, [], hW', trodAll_mk1 (shut_bool Try.underlying4 _), (trodAll_cons_mk (Below.trod laidOut (by kernel_rfl) (of_decide_eq_true (by kernel_rfl)) k0 bel lt0) trodAll_mk0), rfl, bel.frame _, fun h => by cases h⟩

theorem proved : Rows.FnExactValidTrustSaid :=
  OpenClaim.holds_of_wide 12 Try.f12 rfl rfl rfl rfl rfl rfl rfl ⟨rfl, rfl, rfl, rfl, rfl⟩ rfl rfl rfl rfl rfl (by kernel_rfl) Try.func12 (by kernel_rfl)
    (of_decide_eq_true (by kernel_rfl)) (by unfold Func.isWrapper; first | (rw [if_pos (by decide +kernel)]; kernel_rfl) | (rw [if_neg (by decide +kernel)]; exact ⟨rfl, rfl⟩))
    (fun os started H enc _ => lifted os started H enc)
end Go.Proofs.Ytemicfeiejfdkaa.clValidTrust
