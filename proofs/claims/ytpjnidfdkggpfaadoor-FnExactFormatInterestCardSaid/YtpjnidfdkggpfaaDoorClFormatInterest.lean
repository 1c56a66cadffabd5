/- Proved here: the given statement FnExactFormatInterestCardSaid (and its row): the law returns true for all arguments, and they read afterwards as before. Conditions: none. Printed by a program. -/
import Derived.Test.YtpjnidfdkggpfaaDoorOpn
import Derived.Test.YtpjnidfdkggpfaaDoorLFormatInterest
import Derived.ShutString
import Derived.LaidLaws
import Derived.LaidSub
import Derived.Lib.LaidTab
import Derived.SevenTiedAt
import Derived.Test.YtpjnidfdkggpfaaDoorCards
import Derived.Test.YtpjnidfdkggpfaaDoorTie
namespace Go.Proofs.YtpjnidfdkggpfaaDoor.clFormatInterest
open Go.ChangeShapes Go.WideShapes Go.ChangeAt Go.RowKit
set_option linter.unusedVariables false

theorem own : ownKnob Tryd.prog.godebug = none := by kernel_rfl
theorem laidOut : laidOutB Tryd.prog = true := by kernel_rfl
section
variable {H : Type} {enc : TypeId × Value → H} {w : World} {base : Nat} {spare : Nat → Bool} {held : Bool}
theorem o_string : Opens enc Tryd.prog w base spare held 9 .str := opens_str Tryd.underlying9
theorem o_StringS : Opens enc Tryd.prog w base spare held 22 (.sl .str) := opens_sl Tryd.underlying22 (by kernel_rfl) (by decide) o_string
theorem o_Name : Opens enc Tryd.prog w base spare held 24 (.sl .str) := opens_struct (ts := [(.sl .str)]) Tryd.underlying24 (by kernel_rfl) ⟨o_StringS, trivial⟩
theorem o_int : Opens enc Tryd.prog w base spare held 3 .int := opens_int Tryd.underlying3
theorem o_Interest : Opens enc Tryd.prog w base spare held 26 tInterest := opens_struct (ts := [(.sl .str), .int, .int, .int]) Tryd.underlying26 (by kernel_rfl) ⟨o_Name, o_int, o_int, o_int, trivial⟩
end

theorem tab_of_laid {W : World} (h : laidMet Tryd.prog Rows.fnExactFormatInterestRow.laid W) : TabI W := by
  have h1 := h.filter (fun x => x.1 == "internal/strconv.uint64pow10")
  have h2 : Rows.fnExactFormatInterestRow.laid.filter (fun x => x.1 == "internal/strconv.uint64pow10") = [("internal/strconv.uint64pow10", Lib.tabData .u64 Lib.pow10Tab)] := by rfl
  rw [h2] at h1
  exact Lib.tabIs_of_head (P := Tryd.prog) (g := 1) (t := 101) (e := 88) (n := 20) (by kernel_rfl) (by kernel_rfl) Tryd.underlying101 Tryd.underlying88 (by kernel_rfl) (by kernel_rfl) h1
/-- The cells of a listed table. -/
def tabCells : DataW Unit → Array Value
  | .agg ds => (ds.map fun d => match d with | .lit (.int k n) => Value.int k n | _ => Value.int .u8 0).toArray
  | _ => #[]
noncomputable def putTab (w : World) (x : String × DataW Unit) : World := match Tryd.prog.globalNamed x.1 with
  | some g => { w with heap := w.heap.modify g fun
      | .cells _ t frozen => .cells (tabCells x.2) t frozen
      | o => o }
  | none => w
/-- The settled world in which the listed variables hold what is listed. -/
noncomputable def tabWorld (os : Os) : World := Rows.fnExactFormatInterestRow.laid.foldl putTab (World.holding Tryd.prog os ⟨#[], #[], []⟩)
set_option maxRecDepth 100000 in
theorem laid_met (os : Os) (args : Array Value) : laidMet Tryd.prog Rows.fnExactFormatInterestRow.laid ((tabWorld os).forCall (fun _ _ => 0) ⟨#[], args, []⟩).memory :=
  laidMet_of_run' 40 (by kernel_rfl) (by kernel_rfl)
set_option maxRecDepth 100000 in
theorem lifted (os : Os) (started : os.Started) (H : Type) (enc : TypeId × Value → H) :
    ReturnsInHanded {} Tryd.checked os 3 .any (fun w args => (Rows.fnExactFormatInterestSpec.pre enc Tryd.prog Tryd.f3 Rows.fnExactFormatInterestRow.domain false w args ∧ laidMet Tryd.prog Rows.fnExactFormatInterestRow.laid w) ∧ sizedMet enc Tryd.prog Tryd.f3 (OpenSpec.ofChange Rows.fnExactFormatInterestSpec) false w args) (Rows.fnExactFormatInterestSpec.post enc Tryd.prog Tryd.f3 false true false false) := by
  refine returnsInHanded_of_change_and (C := Tryd.checked) (X := fun w _ => laidMet Tryd.prog Rows.fnExactFormatInterestRow.laid w) (fun _ _ _ hh h => h.of_heap hh) own started (by kernel_rfl) Tryd.func3
    (ChangeSpec.witness_at (enc := enc) (C := Tryd.checked) (os := os) (X := fun w _ => laidMet Tryd.prog Rows.fnExactFormatInterestRow.laid w) false (tabWorld os) #[.agg #[.slice none 0 0, .int .i64 0, .int .i64 0, .int .i64 0]] 8 rfl (by kernel_rfl) (by kernel_rfl) (by kernel_rfl) (by kernel_rfl) (by kernel_rfl) (laid_met os _)) ?_
  intro W base args ds gs before hval0 hW hcnd _ hL _
  have hval : ∀ (j : Nat) t v, Tryd.f3.params[j]? = some t → args[j]? = some v → Value.okWide Tryd.prog W .any base t v := hval0
  have hW' := hW
  obtain ⟨p, q, hA0, hV, rfl, hfz, hnd⟩ := hW
  have hA : DataW.TrodAll enc Tryd.prog W 0 (fun _ => true) true Tryd.f3.params.toList args.toList ds p := hA0
  rw [Tryd.params3] at hA hval
  obtain ⟨v0, vs0, d0, ds0, p0, q0, hargs, rfl, rfl, h0, r0⟩ := trodAll_cons hA
  obtain ⟨rfl, rfl, rfl⟩ := trodAll_nil r0
  obtain rfl : args = #[v0] := by cases args; simp_all
  obtain ⟨rfl, rfl⟩ := trodVars_none hV
  have k0 := h0
  have lt0 : ∀ x ∈ p0, x.block < W.heap.size := by obtain ⟨m, hm⟩ := k0; exact DataW.trod_lt m _ _ _ hm
  obtain ⟨c0, rfl, hs0⟩ := okWide_struct Tryd.underlying26 (hval 0 26 v0 rfl rfl)
  obtain ⟨f0, g0⟩ := h0
  obtain ⟨x0, xh0⟩ := o_Interest _ _ _ g0
  clear hA0 hval0
  refine (L_FormatInterest W c0.toList x0 xh0 (tab_of_laid hL)).mono fun e W' ⟨he, bel⟩ => ?_
  subst he
  exact ⟨_, rfl, _, _, _, [], _, [], hW', trodAll_mk1 (shut_bool Tryd.underlying4 _), (trodAll_cons_mk (Below.trod laidOut (by kernel_rfl) (of_decide_eq_true (by kernel_rfl)) k0 bel lt0) trodAll_mk0), rfl, bel.frame _, fun h => by cases h⟩

theorem row_holds : Rows.FnExactFormatInterestSaid :=
  OpenClaim.holds_of_wide 3 Tryd.f3 rfl rfl rfl rfl rfl rfl rfl ⟨rfl, rfl, rfl, rfl, rfl⟩ rfl rfl rfl rfl rfl (by kernel_rfl) Tryd.func3 (by kernel_rfl)
    (of_decide_eq_true (by kernel_rfl)) (by unfold Func.isWrapper; first | (rw [if_pos (by decide +kernel)]; kernel_rfl) | (rw [if_neg (by decide +kernel)]; exact ⟨rfl, rfl⟩))
    (fun os started H enc _ => lifted os started H enc)

set_option maxRecDepth 100000 in
theorem proved : Rows.FnExactFormatInterestCardSaid :=
  Claim7.holds_tied_plain_at .later [] [.data, .data, .data] true (true, "acf338cefbe9a90a20922da9f76eb67dc15586b338ae57f061ad135370063633") false
    row_holds (fun _ h => by cases h) (by kernel_rfl) (fun _ h => by cases h) fnExactFormatInterest_row_tie rfl ⟨rfl, rfl⟩ (by kernel_rfl) rfl
    (fun f fn hf hfn => by
      obtain rfl : f = 3 := Option.some.inj ((show Tryd.prog.funcNamed "loop.example/g00507/laws.FnExactFormatInterest" = some 3 by kernel_rfl).symm.trans hf) |>.symm
      obtain rfl : fn = Tryd.f3 := (Option.some.inj (Tryd.func3.symm.trans hfn)).symm
      exact ⟨by kernel_rfl, fun j t ht => by
        rw [Tryd.params3] at ht
        have h3 : t = 26 := by
          rcases j with _ | j
          · simpa using ht.symm
          · simp at ht
        subst h3
        exact (show Tryd.prog.wantsStandIn 26 = false by kernel_rfl)⟩)
    (by kernel_rfl)
end Go.Proofs.YtpjnidfdkggpfaaDoor.clFormatInterest
