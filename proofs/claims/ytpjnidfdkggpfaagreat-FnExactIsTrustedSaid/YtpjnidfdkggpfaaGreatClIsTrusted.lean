/- Proved here: the given statement FnExactIsTrustedSaid: the law returns true for all arguments, and they read afterwards as before. Conditions: none. Printed by a program. -/
import Derived.Test.YtpjnidfdkggpfaaGreatOpn
import Derived.Test.YtpjnidfdkggpfaaGreatLIsTrusted
import Derived.ShutString
namespace Go.Proofs.YtpjnidfdkggpfaaGreat.clIsTrusted
open Go.ChangeShapes Go.WideShapes Go.ChangeAt Go.RowKit
set_option linter.unusedVariables false

theorem own : ownKnob Tryz.prog.godebug = none := by kernel_rfl
theorem laidOut : laidOutB Tryz.prog = true := by kernel_rfl
section
variable {H : Type} {enc : TypeId × Value → H} {w : World} {base : Nat} {spare : Nat → Bool} {held : Bool}
theorem o_string : Opens enc Tryz.prog w base spare held 9 .str := opens_str Tryz.underlying9
theorem o_StringS : Opens enc Tryz.prog w base spare held 28 (.sl .str) := opens_sl Tryz.underlying28 (by kernel_rfl) (by decide) o_string
theorem o_Name : Opens enc Tryz.prog w base spare held 30 (.sl .str) := opens_struct (ts := [(.sl .str)]) Tryz.underlying30 (by kernel_rfl) ⟨o_StringS, trivial⟩
theorem o_int : Opens enc Tryz.prog w base spare held 3 .int := opens_int Tryz.underlying3
theorem o_Key : Opens enc Tryz.prog w base spare held 74 tKey := opens_struct (ts := [(.sl .str), .int]) Tryz.underlying74 (by kernel_rfl) ⟨o_Name, o_int, trivial⟩
theorem o_KeyS : Opens enc Tryz.prog w base spare held 22 (.sl tKey) := opens_sl Tryz.underlying22 (by kernel_rfl) (by decide) o_Key
theorem o_Pattern : Opens enc Tryz.prog w base spare held 76 (.sl .str) := opens_struct (ts := [(.sl .str)]) Tryz.underlying76 (by kernel_rfl) ⟨o_StringS, trivial⟩
theorem o_Rule : Opens enc Tryz.prog w base spare held 78 tRule := opens_struct (ts := [(.sl .str), (.sl .str)]) Tryz.underlying78 (by kernel_rfl) ⟨o_Pattern, o_Pattern, trivial⟩
theorem o_RuleS : Opens enc Tryz.prog w base spare held 23 (.sl tRule) := opens_sl Tryz.underlying23 (by kernel_rfl) (by decide) o_Rule
theorem o_NameS : Opens enc Tryz.prog w base spare held 24 (.sl (.sl .str)) := opens_sl Tryz.underlying24 (by kernel_rfl) (by decide) o_Name
theorem o_byte : Opens enc Tryz.prog w base spare held 5 .byte := opens_byte Tryz.underlying5
theorem o_ByteS : Opens enc Tryz.prog w base spare held 31 (.sl .byte) := opens_sl Tryz.underlying31 (by kernel_rfl) (by decide) o_byte
theorem o_Data : Opens enc Tryz.prog w base spare held 33 tData := opens_struct (ts := [(.sl .str), (.sl .byte), (.sl .str), .int, .int]) Tryz.underlying33 (by kernel_rfl) ⟨o_Name, o_ByteS, o_Name, o_int, o_int, trivial⟩
theorem o_DataS : Opens enc Tryz.prog w base spare held 25 (.sl tData) := opens_sl Tryz.underlying25 (by kernel_rfl) (by decide) o_Data
theorem o_TrustPolicy : Opens enc Tryz.prog w base spare held 27 tTrustPolicy := opens_struct (ts := [(.sl tKey), (.sl tRule), (.sl (.sl .str)), (.sl tData)]) Tryz.underlying27 (by kernel_rfl) ⟨o_KeyS, o_RuleS, o_NameS, o_DataS, trivial⟩
end

set_option maxRecDepth 100000 in
theorem lifted (os : Os) (started : os.Started) (H : Type) (enc : TypeId × Value → H) :
    ReturnsInHanded {} Tryz.checked os 3 .any (Rows.fnExactIsTrustedSpec.pre6 enc Tryz.prog Tryz.f3 Rows.fnExactIsTrustedRow.domain false) (Rows.fnExactIsTrustedSpec.post enc Tryz.prog Tryz.f3 false true false false) := by
  refine returnsInHanded_of_change (C := Tryz.checked) own started (by kernel_rfl) Tryz.func3
    (ChangeSpec.witness6 (enc := enc) (C := Tryz.checked) false ⟨#[], #[.agg #[.slice none 0 0, .slice none 0 0, .slice none 0 0, .slice none 0 0], .agg #[.slice none 0 0, .slice none 0 0, .slice none 0 0, .int .i64 0, .int .i64 0], .int .i64 0], []⟩ 8 (by kernel_rfl) (by kernel_rfl) (by kernel_rfl) (by kernel_rfl)) ?_
  intro W base args ds gs before hval0 hW hcnd _
  have hval : ∀ (j : Nat) t v, Tryz.f3.params[j]? = some t → args[j]? = some v → Value.okWide Tryz.prog W .any base t v := hval0
  have hW' := hW
  obtain ⟨p, q, hA0, hV, rfl, hfz, hnd⟩ := hW
  have hA : DataW.TrodAll enc Tryz.prog W 0 (fun _ => true) true Tryz.f3.params.toList args.toList ds p := hA0
  rw [Tryz.params3] at hA hval
  obtain ⟨v0, vs0, d0, ds0, p0, q0, hargs, rfl, rfl, h0, r0⟩ := trodAll_cons hA
  obtain ⟨v1, vs1, d1, ds1, p1, q1, rfl, rfl, rfl, h1, r1⟩ := trodAll_cons r0
  obtain ⟨v2, vs2, d2, ds2, p2, q2, rfl, rfl, rfl, h2, r2⟩ := trodAll_cons r1
  obtain ⟨rfl, rfl, rfl⟩ := trodAll_nil r2
  obtain rfl : args = #[v0, v1, v2] := by cases args; simp_all
  obtain ⟨rfl, rfl⟩ := trodVars_none hV
  have k0 := h0
  have lt0 : ∀ x ∈ p0, x.block < W.heap.size := by obtain ⟨m, hm⟩ := k0; exact DataW.trod_lt m _ _ _ hm
  obtain ⟨c0, rfl, hs0⟩ := okWide_struct Tryz.underlying27 (hval 0 27 v0 rfl rfl)
  obtain ⟨f0, g0⟩ := h0
  obtain ⟨x0, xh0⟩ := o_TrustPolicy _ _ _ g0
  have k1 := h1
  have lt1 : ∀ x ∈ p1, x.block < W.heap.size := by obtain ⟨m, hm⟩ := k1; exact DataW.trod_lt m _ _ _ hm
  obtain ⟨c1, rfl, hs1⟩ := okWide_struct Tryz.underlying33 (hval 1 33 v1 rfl rfl)
  obtain ⟨f1, g1⟩ := h1
  obtain ⟨x1, xh1⟩ := o_Data _ _ _ g1
  have k2 := h2
  have lt2 : ∀ x ∈ p2, x.block < W.heap.size := by obtain ⟨m, hm⟩ := k2; exact DataW.trod_lt m _ _ _ hm
  obtain ⟨a2, rfl, rfl, rfl, wf2⟩ := open_int Tryz.underlying3 (hval 2 3 v2 rfl rfl) h2
  clear hA0 hval0
  refine (L_IsTrusted W c0.toList x0 xh0 c1.toList x1 xh1 a2 (bounds_i64 wf2)).mono fun e W' ⟨he, bel⟩ => ?_
  subst he
  exact ⟨_, rfl, _, _, _, [], _, [], hW', trodAll_mk1 (shut_bool Tryz.underlying4 _), (trodAll_cons_mk (Below.trod laidOut (by kernel_rfl) (of_decide_eq_true (by kernel_rfl)) k0 bel lt0) (trodAll_cons_mk (Below.trod laidOut (by kernel_rfl) (of_decide_eq_true (by kernel_rfl)) k1 bel lt1) (trodAll_cons_mk (shut_int Tryz.underlying3 wf2) trodAll_mk0))), rfl, bel.frame _, fun h => by cases h⟩

theorem proved : Rows.FnExactIsTrustedSaid :=
  OpenClaim.holds_of_wide 3 Tryz.f3 rfl rfl rfl rfl rfl rfl rfl ⟨rfl, rfl, rfl, rfl, rfl⟩ rfl rfl rfl rfl rfl (by kernel_rfl) Tryz.func3 (by kernel_rfl)
    (of_decide_eq_true (by kernel_rfl)) (by unfold Func.isWrapper; first | (rw [if_pos (by decide +kernel)]; kernel_rfl) | (rw [if_neg (by decide +kernel)]; exact ⟨rfl, rfl⟩))
    (fun os started H enc _ => lifted os started H enc)
end Go.Proofs.YtpjnidfdkggpfaaGreat.clIsTrusted
