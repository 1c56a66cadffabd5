/- Proved here: the given statement FnWantsCardSaid (and its row): interests are decoded from their encodings, and no other bytes are accepted; the law returns true for every code. No condition. -/
/- Texts of this claim, merged by a program: ClFnWants. -/
import Derived.Test.YtidnahocnhcoiaaDoorQwP
import Derived.Test.YtidnahocnhcoiaaDoorQw0
import Derived.Test.YtidnahocnhcoiaaDoorQw11
import Derived.ShutString
import Derived.LaidLaws
import Derived.LaidSub
import Derived.Lib.LaidTab
import Derived.SevenTiedAt
import Derived.Test.YtidnahocnhcoiaaDoorCards
import Derived.Test.YtidnahocnhcoiaaDoorTie
/- Proved here: the given statement FnWantsCardSaid (and its row): interests are decoded from their encodings, and no other bytes are accepted; the law returns true for every code. No condition. -/
namespace Go.Proofs.YtidnahocnhcoiaaDoor.clFnWants
open Go.ChangeShapes Go.WideShapes Go.ChangeAt Go.RowKit
set_option linter.unusedVariables false
theorem own : ownKnob Tryd.prog.godebug = none := by kernel_rfl
theorem laidOut : laidOutB Tryd.prog = true := by kernel_rfl
section
variable {H : Type} {enc : TypeId × Value → H} {w : World} {base : Nat} {spare : Nat → Bool} {held : Bool}
theorem o_byte : Opens enc Tryd.prog w base spare held 5 .byte := opens_byte Tryd.underlying5
theorem o_ByteS : Opens enc Tryd.prog w base spare held 22 (.sl .byte) := opens_sl Tryd.underlying22 b_15 b_17 o_byte
end
theorem tab_of_laid {W : World} (h : laidMet Tryd.prog Rows.fnWantsRow.laid W) : TabI W := by
 have h1 := h.filter (fun x => x.1 == "internal/strconv.uint64pow10")
 have h2 : Rows.fnWantsRow.laid.filter (fun x => x.1 == "internal/strconv.uint64pow10") = [("internal/strconv.uint64pow10", Lib.tabData .u64 Lib.pow10Tab)] := by rfl
 rw [h2] at h1
 exact Lib.tabIs_of_head (P := Tryd.prog) (g := 0) (t := 110) (e := 100) (n := 20) b_15 b_15 Tryd.underlying110 Tryd.underlying100 b_15 b_15 h1
def tabCells : DataW Unit → Array Value
 | .agg ds => (ds.map fun d => match d with | .lit (.int k n) => Value.int k n | _ => Value.int .u8 0).toArray
 | _ => #[]
noncomputable def putTab (w : World) (x : String × DataW Unit) : World := match Tryd.prog.globalNamed x.1 with
 | some g => { w with heap := w.heap.modify g fun
   | .cells _ t frozen => .cells (tabCells x.2) t frozen
   | o => o }
 | none => w
noncomputable def tabWorld (os : Os) : World := Rows.fnWantsRow.laid.foldl putTab (World.holding Tryd.prog os ⟨#[], #[], []⟩)
set_option maxRecDepth 100000 in
theorem laid_met (os : Os) (args : Array Value) : laidMet Tryd.prog Rows.fnWantsRow.laid ((tabWorld os).forCall (fun _ _ => 0) ⟨#[], args, []⟩).memory :=
 laidMet_of_run' 40 b_15 b_15
set_option maxRecDepth 100000 in
theorem lifted (os : Os) (started : os.Started) (H : Type) (enc : TypeId × Value → H) :
  ReturnsInHanded {} Tryd.checked os 3 .any (fun w args => (Rows.fnWantsSpec.pre enc Tryd.prog Tryd.f3 Rows.fnWantsRow.domain false w args ∧ laidMet Tryd.prog Rows.fnWantsRow.laid w) ∧ sizedMet enc Tryd.prog Tryd.f3 (OpenSpec.ofChange Rows.fnWantsSpec) false w args) (Rows.fnWantsSpec.post enc Tryd.prog Tryd.f3 false true false false) := by
 refine returnsInHanded_of_change_and (C := Tryd.checked) (X := fun w _ => laidMet Tryd.prog Rows.fnWantsRow.laid w) (fun _ _ _ hh h => h.of_heap hh) own started b_15 Tryd.func3
  (ChangeSpec.witness_at (enc := enc) (C := Tryd.checked) (os := os) (X := fun w _ => laidMet Tryd.prog Rows.fnWantsRow.laid w) false (tabWorld os) #[.slice none 0 0] 8 rfl b_15 b_15 b_15 b_15 b_15 (laid_met os _)) ?_
 intro W base args ds gs before hval0 hW hcnd _ hL _
 have hval : ∀ (j : Nat) t v, Tryd.f3.params[j]? = some t → args[j]? = some v → Value.okWide Tryd.prog W .any base t v := hval0
 have hW' := hW
 obtain ⟨p, q, hA0, hV, rfl, hfz, hnd⟩ := hW
 have hA : DataW.TrodAll enc Tryd.prog W 0 (fun _ => true) true Tryd.f3.params.toList args.toList ds p := hA0
 rw [Tryd.params3] at hA hval
 obtain ⟨v0, vs0, d0, ds0, p0, q0, hargs, rfl, rfl, h0, r0⟩ := trodAll_cons hA
 obtain ⟨rfl, rfl, rfl⟩ := trodAll_nil r0
 obtain rfl : args = #[v0] := by cases args; simp_all
 obtain ⟨rfl, rfl⟩ := trodVars_none hV
 have k0 := h0
 have lt0 : ∀ x ∈ p0, x.block < W.heap.size := by obtain ⟨m, hm⟩ := k0; exact DataW.trod_lt m _ _ _ hm
 obtain ⟨A0, n0, c0, rfl⟩ := okWide_slice Tryd.underlying22 (hval 0 22 v0 rfl rfl)
 obtain ⟨f0, g0⟩ := h0
 obtain ⟨x0, xh0⟩ := o_ByteS _ _ _ g0
 clear hA0 hval0
 refine (L_FnWants W _ x0 xh0 (tab_of_laid hL)).mono fun e W' ⟨he, bel⟩ => ?_
 subst he
 exact ⟨_, rfl, _, _, _, [], _, [], hW', trodAll_mk1 (shut_bool Tryd.underlying4 _), (trodAll_cons_mk (Below.trod laidOut b_15 (of_decide_eq_true b_15) k0 bel lt0) trodAll_mk0), rfl, bel.frame _, fun h => by cases h⟩
theorem row_holds : Rows.FnWantsSaid :=
 OpenClaim.holds_of_wide 3 Tryd.f3 rfl rfl rfl rfl rfl rfl rfl ⟨rfl, rfl, rfl, rfl, rfl⟩ rfl rfl rfl rfl rfl b_15 Tryd.func3 b_15
  (of_decide_eq_true b_15) (by unfold Func.isWrapper; first | (rw [if_pos (by decide +kernel)]; kernel_rfl) | (rw [if_neg (by decide +kernel)]; exact ⟨rfl, rfl⟩))
  (fun os started H enc _ => lifted os started H enc)
set_option maxRecDepth 100000 in
theorem proved : Rows.FnWantsCardSaid :=
 Claim7.holds_tied_plain_at .later [] [.data, .data, .data] true (true, "09843600236d5ae73938b4577d189655ed1f604487e54cf8d2f16774d705d1fa") false
  row_holds (fun _ h => by cases h) b_15 (fun _ h => by cases h) fnWants_row_tie rfl ⟨rfl, rfl⟩ b_15 rfl
  (fun f fn hf hfn => by
   obtain rfl : f = 3 := Option.some.inj ((show Tryd.prog.funcNamed "loop.example/g00507/laws.FnWants" = some 3 by kernel_rfl).symm.trans hf) |>.symm
   obtain rfl : fn = Tryd.f3 := (Option.some.inj (Tryd.func3.symm.trans hfn)).symm
   exact ⟨by kernel_rfl, fun j t ht => by
    rw [Tryd.params3] at ht
    have h3 : t = 22 := by
     rcases j with _ | j
     ·simpa using ht.symm
     ·simp at ht
    subst h3
    exact (show Tryd.prog.wantsStandIn 22 = false by kernel_rfl)⟩)
  b_15
end Go.Proofs.YtidnahocnhcoiaaDoor.clFnWants
