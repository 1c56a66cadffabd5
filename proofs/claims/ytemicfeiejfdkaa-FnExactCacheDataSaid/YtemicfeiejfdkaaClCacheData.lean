/- Proved here: the given statement FnExactCacheDataSaid: the law returns true for all arguments, and they read afterwards as before. Conditions: none. Printed by a program. -/
import Derived.Test.YtemicfeiejfdkaaOpn
import Derived.Test.YtemicfeiejfdkaaLCacheData
import Derived.ShutString
namespace Go.Proofs.Ytemicfeiejfdkaa.clCacheData
open Go.ChangeShapes Go.WideShapes Go.ChangeAt Go.RowKit
set_option linter.unusedVariables false

theorem own : ownKnob Try.prog.godebug = none := by kernel_rfl
theorem laidOut : laidOutB Try.prog = true := by kernel_rfl
section
variable {H : Type} {enc : TypeId × Value → H} {w : World} {base : Nat} {spare : Nat → Bool} {held : Bool}
theorem o_int : Opens enc Try.prog w base spare held 3 .int := opens_int Try.underlying3
theorem o_string : Opens enc Try.prog w base spare held 9 .str := opens_str Try.underlying9
theorem o_StringS : Opens enc Try.prog w base spare held 43 (.sl .str) := opens_sl Try.underlying43 (by kernel_rfl) (by decide) o_string
theorem o_Name : Opens enc Try.prog w base spare held 45 (.sl .str) := opens_struct (ts := [(.sl .str)]) Try.underlying45 (by kernel_rfl) ⟨o_StringS, trivial⟩
theorem o_byte : Opens enc Try.prog w base spare held 5 .byte := opens_byte Try.underlying5
theorem o_ByteS : Opens enc Try.prog w base spare held 48 (.sl .byte) := opens_sl Try.underlying48 (by kernel_rfl) (by decide) o_byte
theorem o_Data : Opens enc Try.prog w base spare held 61 tData := opens_struct (ts := [(.sl .str), (.sl .byte), (.sl .str), .int, .int]) Try.underlying61 (by kernel_rfl) ⟨o_Name, o_ByteS, o_Name, o_int, o_int, trivial⟩
theorem o_CacheEntry : Opens enc Try.prog w base spare held 138 tCacheEntry := opens_struct (ts := [tData, .int]) Try.underlying138 (by kernel_rfl) ⟨o_Data, o_int, trivial⟩
theorem o_CacheEntryS : Opens enc Try.prog w base spare held 29 (.sl tCacheEntry) := opens_sl Try.underlying29 (by kernel_rfl) (by decide) o_CacheEntry
theorem o_ContentStore : Opens enc Try.prog w base spare held 31 tContentStore := opens_struct (ts := [.int, (.sl tCacheEntry)]) Try.underlying31 (by kernel_rfl) ⟨o_int, o_CacheEntryS, trivial⟩
end

set_option maxRecDepth 100000 in
theorem lifted (os : Os) (started : os.Started) (H : Type) (enc : TypeId × Value → H) :
    ReturnsInHanded {} Try.checked os 10 .any (Rows.fnExactCacheDataSpec.pre6 enc Try.prog Try.f10 Rows.fnExactCacheDataRow.domain false) (Rows.fnExactCacheDataSpec.post enc Try.prog Try.f10 false true false false) := by
  refine returnsInHanded_of_change (C := Try.checked) own started (by kernel_rfl) Try.func10
    (ChangeSpec.witness6 (enc := enc) (C := Try.checked) false ⟨#[], #[.agg #[.int .i64 0, .slice none 0 0], .agg #[.slice none 0 0, .slice none 0 0, .slice none 0 0, .int .i64 0, .int .i64 0], .int .i64 0], []⟩ 8 (by kernel_rfl) (by kernel_rfl) (by kernel_rfl) (by kernel_rfl)) ?_
  intro W base args ds gs before hval0 hW hcnd _
  have hval : ∀ (j : Nat) t v, Try.f10.params[j]? = some t → args[j]? = some v → Value.okWide Try.prog W .any base t v := hval0
  have hW' := hW
  obtain ⟨p, q, hA0, hV, rfl, hfz, hnd⟩ := hW
  have hA : DataW.TrodAll enc Try.prog W 0 (fun _ => true) true Try.f10.params.toList args.toList ds p := hA0
  rw [Try.params10] at hA hval
  obtain ⟨v0, vs0, d0, ds0, p0, q0, hargs, rfl, rfl, h0, r0⟩ := trodAll_cons hA
  obtain ⟨v1, vs1, d1, ds1, p1, q1, rfl, rfl, rfl, h1, r1⟩ := trodAll_cons r0
  obtain ⟨v2, vs2, d2, ds2, p2, q2, rfl, rfl, rfl, h2, r2⟩ := trodAll_cons r1
  obtain ⟨rfl, rfl, rfl⟩ := trodAll_nil r2
  obtain rfl : args = #[v0, v1, v2] := by cases args; simp_all
  obtain ⟨rfl, rfl⟩ := trodVars_none hV
  have k0 := h0
  have lt0 : ∀ x ∈ p0, x.block < W.heap.size := by obtain ⟨m, hm⟩ := k0; exact DataW.trod_lt m _ _ _ hm
  obtain ⟨c0, rfl, hs0⟩ := okWide_struct Try.underlying31 (hval 0 31 v0 rfl rfl)
  obtain ⟨f0, g0⟩ := h0
  obtain ⟨x0, xh0⟩ := o_ContentStore _ _ _ g0
  have k1 := h1
  have lt1 : ∀ x ∈ p1, x.block < W.heap.size := by obtain ⟨m, hm⟩ := k1; exact DataW.trod_lt m _ _ _ hm
  obtain ⟨c1, rfl, hs1⟩ := okWide_struct Try.underlying61 (hval 1 61 v1 rfl rfl)
  obtain ⟨f1, g1⟩ := h1
  obtain ⟨x1, xh1⟩ := o_Data _ _ _ g1
  have k2 := h2
  have lt2 : ∀ x ∈ p2, x.block < W.heap.size := by obtain ⟨m, hm⟩ := k2; exact DataW.trod_lt m _ _ _ hm
  obtain ⟨a2, rfl, rfl, rfl, wf2⟩ := open_int Try.underlying3 (hval 2 3 v2 rfl rfl) h2
  clear hA0 hval0
  refine (L_CacheData W c0.toList x0 xh0 c1.toList x1 xh1 a2 (bounds_i64 wf2)).mono fun e W' ⟨he, bel⟩ => ?_
  subst he
  exact ⟨_, rfl, _, _, _, [], _, [], hW', trodAll_mk1 (shut_bool Try.underlying4 _), (trodAll_cons_mk (Below.trod laidOut (by kernel_rfl) (of_decide_eq_true (by kernel_rfl)) k0 bel lt0) (trodAll_cons_mk (Below.trod laidOut (by kernel_rfl) (of_decide_eq_true (by kernel_rfl)) k1 bel lt1) (trodAll_cons_mk (shut_int Try.underlying3 wf2) trodAll_mk0))), rfl, bel.frame _, fun h => by cases h⟩

theorem proved : Rows.FnExactCacheDataSaid :=
  OpenClaim.holds_of_wide 10 Try.f10 rfl rfl rfl rfl rfl rfl rfl ⟨rfl, rfl, rfl, rfl, rfl⟩ rfl rfl rfl rfl rfl (by kernel_rfl) Try.func10 (by kernel_rfl)
    (of_decide_eq_true (by kernel_rfl)) (by unfold Func.isWrapper; first | (rw [if_pos (by decide +kernel)]; kernel_rfl) | (rw [if_neg (by decide +kernel)]; exact ⟨rfl, rfl⟩))
    (fun os started H enc _ => lifted os started H enc)
end Go.Proofs.Ytemicfeiejfdkaa.clCacheData
