/- Texts of this claim, merged by a program: Stp Nam Mkb Pure Dat Smg Val Int. -/
import Derived.Test.YtidnahocnhcoiaaDoorQwP
import Derived.Test.YtidnahocnhcoiaaDoorQw0
import Derived.Deep.RegionHeld3
import Derived.StillTailTactics
import Derived.WalkLawsBesides
import Derived.BigQuiet
import Derived.Shelf.Abstract
namespace Go.Proofs.YtidnahocnhcoiaaDoor
open Go.RowKit
set_option linter.unusedVariables false
set_option linter.unusedSimpArgs false
theorem opN {l : List Oper} {i : Nat} {x : Oper} (h : (l.drop i).head? = some x) : l.toArray[i]? = some x := by
 rw [List.head?_drop] at h
 simpa using h
section
variable {P : Program} {ops : Array Oper} {Q : Exit → Act → World → Prop} {S : World → Prop}
theorem tk (i : Nat) {oi : Oper} {v : Value} {fuel : Nat} {listed : Array Bool} {a : Act} {w : World} (hi : ops[i]? = some oi)
  (hb : (Region.noSelect ops && (Region.free .any ops listed i && (Region.ready .any ops listed).contains i)) = true)
  (hw : Region.wanted oi (yielded ops a.tmps) = true) (hv : ∀ w, S w → (execOp a.eval oi).run P w = .ok (.value v) w) (hS : S w)
  (h : wpAnyH P .any ops (NoPanic Q) S fuel (listed.setIfInBounds i true) (a.put oi.dst v) w) : wpAnyH P .any ops (NoPanic Q) S (fuel + 1) listed a w := by
 simp only [Bool.and_eq_true] at hb
 exact wpAnyH_take hi hb.1 hb.2.1 hb.2.2 (fun _ _ _ h => h) (Or.inl ⟨hw, hv⟩) hS h
theorem sk (i : Nat) {oi : Oper} {fuel : Nat} {listed : Array Bool} {a : Act} {w : World} (hi : ops[i]? = some oi)
  (hb : (Region.noSelect ops && (Region.free .any ops listed i && (Region.ready .any ops listed).contains i)) = true)
  (hw : Region.wanted oi (yielded ops a.tmps) = false) (hS : S w)
  (h : wpAnyH P .any ops (NoPanic Q) S fuel (listed.setIfInBounds i true) (a.put oi.dst undef) w) : wpAnyH P .any ops (NoPanic Q) S (fuel + 1) listed a w := by
 simp only [Bool.and_eq_true] at hb
 exact wpAnyH_take hi hb.1 hb.2.1 hb.2.2 (fun _ _ _ h => h) (Or.inr ⟨hw, rfl⟩) hS h
end
theorem layz : (∀ (a : Act) (d : Tmp) (v : Value), a.put (some d) v = { a with tmps := a.tmps.setIfInBounds d v }) ∧ (∀ (a : Act) (v : Value), a.put none v = a) ∧ (∀ {α : Type} (l : List α) (i : Nat) (x : α), l.toArray.setIfInBounds i x = (l.set i x).toArray) ∧ (∀ {α : Type} (x y : α) (l : List α), (x :: l).set 0 y = y :: l) ∧ (∀ {α : Type} (x y : α) (n : Nat) (l : List α), (x :: l).set (n + 1) y = x :: l.set n y) :=
 ⟨fun _ _ _ => rfl, fun _ _ => rfl, fun _ _ _ => List.setIfInBounds_toArray .., fun _ _ _ => rfl, fun _ _ _ _ => rfl⟩
section
variable {P : Program} {ops : Array Oper} {Q : Exit → Act → World → Prop} {S : World → Prop} {fuel : Nat} {listed : Array Bool} {a : Act} {w : World}
theorem tkz (i : Nat) {oi : Oper} {v : Value} (h : wpAnyH P .any ops (NoPanic Q) S fuel (listed.setIfInBounds i true) (a.put oi.dst v) w)
  (hi : ops[i]? = some oi := by exact opN rfl)
  (hb : (Region.noSelect ops && (Region.free .any ops listed i && (Region.ready .any ops listed).contains i)) = true := by kernel_rfl)
  (hw : Region.wanted oi (yielded ops a.tmps) = true := by rfl)
  (hv : ∀ w, S w → (execOp a.eval oi).run P w = .ok (.value v) w := by (intro w hSw; (try dsimp only at hSw); go_simp; first | done | with_reducible rfl))
  (hS : S w := by assumption) : wpAnyH P .any ops (NoPanic Q) S (fuel + 1) listed a w := tk i hi hb hw hv hS h
theorem skz (i : Nat) {oi : Oper} (h : wpAnyH P .any ops (NoPanic Q) S fuel (listed.setIfInBounds i true) (a.put oi.dst undef) w)
  (hi : ops[i]? = some oi := by exact opN rfl)
  (hb : (Region.noSelect ops && (Region.free .any ops listed i && (Region.ready .any ops listed).contains i)) = true := by kernel_rfl)
  (hw : Region.wanted oi (yielded ops a.tmps) = false := by rfl)
  (hS : S w := by assumption) : wpAnyH P .any ops (NoPanic Q) S (fuel + 1) listed a w := sk i hi hb hw hS h
theorem rz1 (i : Nat) {oi : Oper} (hi : ∀ K : Act → World → Prop, Shut (∀ a w, S w → (S w → wpAnyH P .any ops (NoPanic Q) S fuel (listed.setIfInBounds i true) a w) → K a w) → if Region.wanted oi (yielded ops a.tmps) = true then Oper.wp P oi a w K (NoPanic Q) else K (a.put oi.dst undef) w) (hr : Region.ready .any ops listed = [i] := by kernel_rfl) (gi : ops[i]? = some oi := by exact opN rfl) : wpAnyH P .any ops (NoPanic Q) S (fuel + 1) listed a w := wpAnyH_ready hr b_19 (AllReadyH.cons gi hi AllReadyH.nil)
theorem rz2 (i j : Nat) {oi oj : Oper} (hi : ∀ K : Act → World → Prop, Shut (∀ a w, S w → (S w → wpAnyH P .any ops (NoPanic Q) S fuel (listed.setIfInBounds i true) a w) → K a w) → if Region.wanted oi (yielded ops a.tmps) = true then Oper.wp P oi a w K (NoPanic Q) else K (a.put oi.dst undef) w) (hj : ∀ K : Act → World → Prop, Shut (∀ a w, S w → (S w → wpAnyH P .any ops (NoPanic Q) S fuel (listed.setIfInBounds j true) a w) → K a w) → if Region.wanted oj (yielded ops a.tmps) = true then Oper.wp P oj a w K (NoPanic Q) else K (a.put oj.dst undef) w) (hr : Region.ready .any ops listed = [i, j] := by kernel_rfl) (gi : ops[i]? = some oi := by exact opN rfl) (gj : ops[j]? = some oj := by exact opN rfl) : wpAnyH P .any ops (NoPanic Q) S (fuel + 1) listed a w := wpAnyH_ready hr b_19 (AllReadyH.cons gi hi (AllReadyH.cons gj hj AllReadyH.nil))
theorem rz3 (i j k : Nat) {oi oj ok : Oper} (hi : ∀ K : Act → World → Prop, Shut (∀ a w, S w → (S w → wpAnyH P .any ops (NoPanic Q) S fuel (listed.setIfInBounds i true) a w) → K a w) → if Region.wanted oi (yielded ops a.tmps) = true then Oper.wp P oi a w K (NoPanic Q) else K (a.put oi.dst undef) w) (hj : ∀ K : Act → World → Prop, Shut (∀ a w, S w → (S w → wpAnyH P .any ops (NoPanic Q) S fuel (listed.setIfInBounds j true) a w) → K a w) → if Region.wanted oj (yielded ops a.tmps) = true then Oper.wp P oj a w K (NoPanic Q) else K (a.put oj.dst undef) w) (hk : ∀ K : Act → World → Prop, Shut (∀ a w, S w → (S w → wpAnyH P .any ops (NoPanic Q) S fuel (listed.setIfInBounds k true) a w) → K a w) → if Region.wanted ok (yielded ops a.tmps) = true then Oper.wp P ok a w K (NoPanic Q) else K (a.put ok.dst undef) w) (hr : Region.ready .any ops listed = [i, j, k] := by kernel_rfl) (gi : ops[i]? = some oi := by exact opN rfl) (gj : ops[j]? = some oj := by exact opN rfl) (gk : ops[k]? = some ok := by exact opN rfl) : wpAnyH P .any ops (NoPanic Q) S (fuel + 1) listed a w := wpAnyH_ready hr b_19 (AllReadyH.cons gi hi (AllReadyH.cons gj hj (AllReadyH.cons gk hk AllReadyH.nil)))
theorem rz4 (i j k l : Nat) {oi oj ok ol : Oper} (hi : ∀ K : Act → World → Prop, Shut (∀ a w, S w → (S w → wpAnyH P .any ops (NoPanic Q) S fuel (listed.setIfInBounds i true) a w) → K a w) → if Region.wanted oi (yielded ops a.tmps) = true then Oper.wp P oi a w K (NoPanic Q) else K (a.put oi.dst undef) w) (hj : ∀ K : Act → World → Prop, Shut (∀ a w, S w → (S w → wpAnyH P .any ops (NoPanic Q) S fuel (listed.setIfInBounds j true) a w) → K a w) → if Region.wanted oj (yielded ops a.tmps) = true then Oper.wp P oj a w K (NoPanic Q) else K (a.put oj.dst undef) w) (hk : ∀ K : Act → World → Prop, Shut (∀ a w, S w → (S w → wpAnyH P .any ops (NoPanic Q) S fuel (listed.setIfInBounds k true) a w) → K a w) → if Region.wanted ok (yielded ops a.tmps) = true then Oper.wp P ok a w K (NoPanic Q) else K (a.put ok.dst undef) w) (hl : ∀ K : Act → World → Prop, Shut (∀ a w, S w → (S w → wpAnyH P .any ops (NoPanic Q) S fuel (listed.setIfInBounds l true) a w) → K a w) → if Region.wanted ol (yielded ops a.tmps) = true then Oper.wp P ol a w K (NoPanic Q) else K (a.put ol.dst undef) w) (hr : Region.ready .any ops listed = [i, j, k, l] := by kernel_rfl) (gi : ops[i]? = some oi := by exact opN rfl) (gj : ops[j]? = some oj := by exact opN rfl) (gk : ops[k]? = some ok := by exact opN rfl) (gl : ops[l]? = some ol := by exact opN rfl) : wpAnyH P .any ops (NoPanic Q) S (fuel + 1) listed a w := wpAnyH_ready hr b_19 (AllReadyH.cons gi hi (AllReadyH.cons gj hj (AllReadyH.cons gk hk (AllReadyH.cons gl hl AllReadyH.nil))))
theorem rz5 (i j k l m : Nat) {oi oj ok ol om : Oper} (hi : ∀ K : Act → World → Prop, Shut (∀ a w, S w → (S w → wpAnyH P .any ops (NoPanic Q) S fuel (listed.setIfInBounds i true) a w) → K a w) → if Region.wanted oi (yielded ops a.tmps) = true then Oper.wp P oi a w K (NoPanic Q) else K (a.put oi.dst undef) w) (hj : ∀ K : Act → World → Prop, Shut (∀ a w, S w → (S w → wpAnyH P .any ops (NoPanic Q) S fuel (listed.setIfInBounds j true) a w) → K a w) → if Region.wanted oj (yielded ops a.tmps) = true then Oper.wp P oj a w K (NoPanic Q) else K (a.put oj.dst undef) w) (hk : ∀ K : Act → World → Prop, Shut (∀ a w, S w → (S w → wpAnyH P .any ops (NoPanic Q) S fuel (listed.setIfInBounds k true) a w) → K a w) → if Region.wanted ok (yielded ops a.tmps) = true then Oper.wp P ok a w K (NoPanic Q) else K (a.put ok.dst undef) w) (hl : ∀ K : Act → World → Prop, Shut (∀ a w, S w → (S w → wpAnyH P .any ops (NoPanic Q) S fuel (listed.setIfInBounds l true) a w) → K a w) → if Region.wanted ol (yielded ops a.tmps) = true then Oper.wp P ol a w K (NoPanic Q) else K (a.put ol.dst undef) w) (hm : ∀ K : Act → World → Prop, Shut (∀ a w, S w → (S w → wpAnyH P .any ops (NoPanic Q) S fuel (listed.setIfInBounds m true) a w) → K a w) → if Region.wanted om (yielded ops a.tmps) = true then Oper.wp P om a w K (NoPanic Q) else K (a.put om.dst undef) w) (hr : Region.ready .any ops listed = [i, j, k, l, m] := by kernel_rfl) (gi : ops[i]? = some oi := by exact opN rfl) (gj : ops[j]? = some oj := by exact opN rfl) (gk : ops[k]? = some ok := by exact opN rfl) (gl : ops[l]? = some ol := by exact opN rfl) (gm : ops[m]? = some om := by exact opN rfl) : wpAnyH P .any ops (NoPanic Q) S (fuel + 1) listed a w := wpAnyH_ready hr b_19 (AllReadyH.cons gi hi (AllReadyH.cons gj hj (AllReadyH.cons gk hk (AllReadyH.cons gl hl (AllReadyH.cons gm hm AllReadyH.nil)))))
theorem rz6 (i j k l m n : Nat) {oi oj ok ol om on : Oper} (hi : ∀ K : Act → World → Prop, Shut (∀ a w, S w → (S w → wpAnyH P .any ops (NoPanic Q) S fuel (listed.setIfInBounds i true) a w) → K a w) → if Region.wanted oi (yielded ops a.tmps) = true then Oper.wp P oi a w K (NoPanic Q) else K (a.put oi.dst undef) w) (hj : ∀ K : Act → World → Prop, Shut (∀ a w, S w → (S w → wpAnyH P .any ops (NoPanic Q) S fuel (listed.setIfInBounds j true) a w) → K a w) → if Region.wanted oj (yielded ops a.tmps) = true then Oper.wp P oj a w K (NoPanic Q) else K (a.put oj.dst undef) w) (hk : ∀ K : Act → World → Prop, Shut (∀ a w, S w → (S w → wpAnyH P .any ops (NoPanic Q) S fuel (listed.setIfInBounds k true) a w) → K a w) → if Region.wanted ok (yielded ops a.tmps) = true then Oper.wp P ok a w K (NoPanic Q) else K (a.put ok.dst undef) w) (hl : ∀ K : Act → World → Prop, Shut (∀ a w, S w → (S w → wpAnyH P .any ops (NoPanic Q) S fuel (listed.setIfInBounds l true) a w) → K a w) → if Region.wanted ol (yielded ops a.tmps) = true then Oper.wp P ol a w K (NoPanic Q) else K (a.put ol.dst undef) w) (hm : ∀ K : Act → World → Prop, Shut (∀ a w, S w → (S w → wpAnyH P .any ops (NoPanic Q) S fuel (listed.setIfInBounds m true) a w) → K a w) → if Region.wanted om (yielded ops a.tmps) = true then Oper.wp P om a w K (NoPanic Q) else K (a.put om.dst undef) w) (hn : ∀ K : Act → World → Prop, Shut (∀ a w, S w → (S w → wpAnyH P .any ops (NoPanic Q) S fuel (listed.setIfInBounds n true) a w) → K a w) → if Region.wanted on (yielded ops a.tmps) = true then Oper.wp P on a w K (NoPanic Q) else K (a.put on.dst undef) w) (hr : Region.ready .any ops listed = [i, j, k, l, m, n] := by kernel_rfl) (gi : ops[i]? = some oi := by exact opN rfl) (gj : ops[j]? = some oj := by exact opN rfl) (gk : ops[k]? = some ok := by exact opN rfl) (gl : ops[l]? = some ol := by exact opN rfl) (gm : ops[m]? = some om := by exact opN rfl) (gn : ops[n]? = some on := by exact opN rfl) : wpAnyH P .any ops (NoPanic Q) S (fuel + 1) listed a w := wpAnyH_ready hr b_19 (AllReadyH.cons gi hi (AllReadyH.cons gj hj (AllReadyH.cons gk hk (AllReadyH.cons gl hl (AllReadyH.cons gm hm (AllReadyH.cons gn hn AllReadyH.nil))))))
theorem tkz2 (i j : Nat) {oi oj : Oper} {xi xj : Value} (h : wpAnyH P .any ops (NoPanic Q) S fuel ((listed.setIfInBounds i true).setIfInBounds j true) ((a.put oi.dst xi).put oj.dst xj) w) (hi : ops[i]? = some oi := by exact opN rfl) (bi : (Region.noSelect ops && (Region.free .any ops listed i && (Region.ready .any ops listed).contains i)) = true := by kernel_rfl) (wi : Region.wanted oi (yielded ops a.tmps) = true := by first | (simp only [layz]; rfl) | rfl) (vi : ∀ w, S w → (execOp a.eval oi).run P w = .ok (.value xi) w := by (intro w hSw; (try simp only [layz]); (try dsimp only at hSw); go_simp; first | done | with_reducible rfl)) (hj : ops[j]? = some oj := by exact opN rfl) (bj : (Region.noSelect ops && (Region.free .any ops (listed.setIfInBounds i true) j && (Region.ready .any ops (listed.setIfInBounds i true)).contains j)) = true := by kernel_rfl) (wj : Region.wanted oj (yielded ops (a.put oi.dst xi).tmps) = true := by first | (simp only [layz]; rfl) | rfl) (vj : ∀ w, S w → (execOp (a.put oi.dst xi).eval oj).run P w = .ok (.value xj) w := by (intro w hSw; (try simp only [layz]); (try dsimp only at hSw); go_simp; first | done | with_reducible rfl)) (hS : S w := by assumption) : wpAnyH P .any ops (NoPanic Q) S (fuel + 1 + 1) listed a w := (tk i hi bi wi vi hS (tk j hj bj wj vj hS h))
theorem tkz3 (i j k : Nat) {oi oj ok : Oper} {xi xj xk : Value} (h : wpAnyH P .any ops (NoPanic Q) S fuel (((listed.setIfInBounds i true).setIfInBounds j true).setIfInBounds k true) (((a.put oi.dst xi).put oj.dst xj).put ok.dst xk) w) (hi : ops[i]? = some oi := by exact opN rfl) (bi : (Region.noSelect ops && (Region.free .any ops listed i && (Region.ready .any ops listed).contains i)) = true := by kernel_rfl) (wi : Region.wanted oi (yielded ops a.tmps) = true := by first | (simp only [layz]; rfl) | rfl) (vi : ∀ w, S w → (execOp a.eval oi).run P w = .ok (.value xi) w := by (intro w hSw; (try simp only [layz]); (try dsimp only at hSw); go_simp; first | done | with_reducible rfl)) (hj : ops[j]? = some oj := by exact opN rfl) (bj : (Region.noSelect ops && (Region.free .any ops (listed.setIfInBounds i true) j && (Region.ready .any ops (listed.setIfInBounds i true)).contains j)) = true := by kernel_rfl) (wj : Region.wanted oj (yielded ops (a.put oi.dst xi).tmps) = true := by first | (simp only [layz]; rfl) | rfl) (vj : ∀ w, S w → (execOp (a.put oi.dst xi).eval oj).run P w = .ok (.value xj) w := by (intro w hSw; (try simp only [layz]); (try dsimp only at hSw); go_simp; first | done | with_reducible rfl)) (hk : ops[k]? = some ok := by exact opN rfl) (bk : (Region.noSelect ops && (Region.free .any ops ((listed.setIfInBounds i true).setIfInBounds j true) k && (Region.ready .any ops ((listed.setIfInBounds i true).setIfInBounds j true)).contains k)) = true := by kernel_rfl) (wk : Region.wanted ok (yielded ops ((a.put oi.dst xi).put oj.dst xj).tmps) = true := by first | (simp only [layz]; rfl) | rfl) (vk : ∀ w, S w → (execOp ((a.put oi.dst xi).put oj.dst xj).eval ok).run P w = .ok (.value xk) w := by (intro w hSw; (try simp only [layz]); (try dsimp only at hSw); go_simp; first | done | with_reducible rfl)) (hS : S w := by assumption) : wpAnyH P .any ops (NoPanic Q) S (fuel + 1 + 1 + 1) listed a w := (tk i hi bi wi vi hS (tk j hj bj wj vj hS (tk k hk bk wk vk hS h)))
theorem tkz4 (i j k l : Nat) {oi oj ok ol : Oper} {xi xj xk xl : Value} (h : wpAnyH P .any ops (NoPanic Q) S fuel ((((listed.setIfInBounds i true).setIfInBounds j true).setIfInBounds k true).setIfInBounds l true) ((((a.put oi.dst xi).put oj.dst xj).put ok.dst xk).put ol.dst xl) w) (hi : ops[i]? = some oi := by exact opN rfl) (bi : (Region.noSelect ops && (Region.free .any ops listed i && (Region.ready .any ops listed).contains i)) = true := by kernel_rfl) (wi : Region.wanted oi (yielded ops a.tmps) = true := by first | (simp only [layz]; rfl) | rfl) (vi : ∀ w, S w → (execOp a.eval oi).run P w = .ok (.value xi) w := by (intro w hSw; (try simp only [layz]); (try dsimp only at hSw); go_simp; first | done | with_reducible rfl)) (hj : ops[j]? = some oj := by exact opN rfl) (bj : (Region.noSelect ops && (Region.free .any ops (listed.setIfInBounds i true) j && (Region.ready .any ops (listed.setIfInBounds i true)).contains j)) = true := by kernel_rfl) (wj : Region.wanted oj (yielded ops (a.put oi.dst xi).tmps) = true := by first | (simp only [layz]; rfl) | rfl) (vj : ∀ w, S w → (execOp (a.put oi.dst xi).eval oj).run P w = .ok (.value xj) w := by (intro w hSw; (try simp only [layz]); (try dsimp only at hSw); go_simp; first | done | with_reducible rfl)) (hk : ops[k]? = some ok := by exact opN rfl) (bk : (Region.noSelect ops && (Region.free .any ops ((listed.setIfInBounds i true).setIfInBounds j true) k && (Region.ready .any ops ((listed.setIfInBounds i true).setIfInBounds j true)).contains k)) = true := by kernel_rfl) (wk : Region.wanted ok (yielded ops ((a.put oi.dst xi).put oj.dst xj).tmps) = true := by first | (simp only [layz]; rfl) | rfl) (vk : ∀ w, S w → (execOp ((a.put oi.dst xi).put oj.dst xj).eval ok).run P w = .ok (.value xk) w := by (intro w hSw; (try simp only [layz]); (try dsimp only at hSw); go_simp; first | done | with_reducible rfl)) (hl : ops[l]? = some ol := by exact opN rfl) (bl : (Region.noSelect ops && (Region.free .any ops (((listed.setIfInBounds i true).setIfInBounds j true).setIfInBounds k true) l && (Region.ready .any ops (((listed.setIfInBounds i true).setIfInBounds j true).setIfInBounds k true)).contains l)) = true := by kernel_rfl) (wl : Region.wanted ol (yielded ops (((a.put oi.dst xi).put oj.dst xj).put ok.dst xk).tmps) = true := by first | (simp only [layz]; rfl) | rfl) (vl : ∀ w, S w → (execOp (((a.put oi.dst xi).put oj.dst xj).put ok.dst xk).eval ol).run P w = .ok (.value xl) w := by (intro w hSw; (try simp only [layz]); (try dsimp only at hSw); go_simp; first | done | with_reducible rfl)) (hS : S w := by assumption) : wpAnyH P .any ops (NoPanic Q) S (fuel + 1 + 1 + 1 + 1) listed a w := (tk i hi bi wi vi hS (tk j hj bj wj vj hS (tk k hk bk wk vk hS (tk l hl bl wl vl hS h))))
end
theorem step_append_row {P : Program} {w : World} {ops : Array Oper} {o : Oper} {a : Act} {K : Act → World → Prop} {Q : Exit → Act → World → Prop} {E : Prop} (hgd : o.guard = none) (s xo : Operand) (t : TypeId)
  (ho : o.op = .call { callee := .builtin .append, args := #[s, xo], argTypes := #[t, t] }) {e : Ty} (F : Flat e) (base : Nat) (te : TypeId) {z : Value} {by_ : Nat}
  (hinfo : (P.info? te).map (fun i => (i.zero, i.size, i.bytes)) = some (some z, 1, by_)) (hz1 : z.cells.size = 1) (ht : P.underlying t = some (.slice te))
  (v u : Value) (x y : List e.D) (hs : a.eval s = v) (hx : a.eval xo = u) (hown : Row F w base te v x) (hy : (Ty.sl e).rd w [u] y) (hbytes : (x.length + y.length) * by_ ≤ 140737488355328) (hlen : x.length + y.length ≤ maxLen) (hbase : base ≤ w.heap.size)
  (h : ∀ v' w', Row F w' base te v' (x ++ y) → w.grownBy w' v.ownBlock → K (a.put o.dst v') w') :
  if Region.wanted o (yielded ops a.tmps) = true then Oper.wp P o a w K Q else E := by
 have hw : Region.wanted o (yielded ops a.tmps) = true := by simp [Region.wanted, hgd]
 rw [if_pos hw]
 obtain ⟨v', w', hr, h2, h3⟩ := run_append_row (P := P) F base t o.type te hinfo hz1 ht v u x y hown hy hbytes hlen hbase
 unfold Oper.wp execOp
 simp only [ho, resolve, invoke, builtin, Sem.run_bind, Sem.run_pure, Result.andThen_ok, List.map_toArray, List.map_cons, List.map_nil, hs, hx, hr]
 exact h v' w' h2 h3
end Go.Proofs.YtidnahocnhcoiaaDoor
namespace Go.Proofs.YtidnahocnhcoiaaDoor
open Go.RowKit
set_option linter.unusedVariables false
set_option linter.unusedSimpArgs false
set_option maxHeartbeats 1000000 in
theorem C_slices_Equal_str (w : World) (v1 v2 : Value) (x y : List (List UInt8)) (h1 : (Ty.sl .str).rd w [v1] x) (h2 : (Ty.sl .str).rd w [v2] y) :
  Calls Tryd.prog 72 #[v1, v2] w (RetB w (decide (x = y))) := by
 obtain ⟨A1, c1, rfl, hc1, hm1, hn1⟩ := Ty.rd_sl h1
 obtain ⟨A2, c2, rfl, hc2, hm2, hn2⟩ := Ty.rd_sl h2
 by_cases hl : x.length = y.length
 ·have q1 : ((x.length : Int) != y.length) = false := by simp [hl]
  have HL := Lib.hid hl
  clear hl
  go_enter Tryd.func72, Tryd.ntmps72
  go_wp2
  go_loopw [13] (fun i wr => ∃ k : Nat, k ≤ x.length ∧ i = .int .i64 k ∧ x.take k = y.take k ∧ Below w.heap.size w wr) (fun i _ => x.length - (intOf i).toNat)
  case atStart => exact ⟨0, by omega, rfl, rfl, Below.refl _ _⟩
  case round =>
   obtain ⟨k, hk, rfl, htk, hb⟩ := hrel
   have HT := Lib.hid htk
   clear htk
   by_cases hlt : k < x.length
   ·have hlt2 : k < y.length := by have := HL.out; omega
    obtain ⟨b1, o1, rfl, e1, _⟩ := Ty.rd_str_at (Ty.rd_below hb h1) hlt
    obtain ⟨b2, o2, rfl, e2, _⟩ := Ty.rd_str_at (Ty.rd_below hb h2) hlt2
    by_cases he : x[k] = y[k]
    ·have q2 : (!x[k] == y[k]) = false := by simp [he]
     have HE := Lib.hid he
     clear he
     go_wp2
     go_quiet (fail)
     go_wp2
     go_roundw
     case rel => exact ⟨k + 1, by omega, by go_num, by rw [List.take_succ_eq_append_getElem hlt, List.take_succ_eq_append_getElem hlt2, HT.out, HE.out], bel_drewN hb _⟩
     case measure => simp [intOf]; omega
    ·have q2 : (!x[k] == y[k]) = true := by simp [he]
     have HE : Hid (¬ x = y) := fun h => he (by subst h; rfl)
     clear he
     go_wp2
     go_quiet (fail)
     go_wp2
     go_ret
     exact ⟨ret_bool (by simp [HE.out]), bel_drewN hb _⟩
   ·have HE : Hid (x = y) := by
     have h1 := HT.out
     rwa [List.take_of_length_le b_18, List.take_of_length_le (by have := HL.out; omega)] at h1
    go_wp2
    go_ret
    exact ⟨ret_bool (by simp [HE.out]), hb⟩
 ·have q1 : ((x.length : Int) != y.length) = true := by rw [bne_iff_ne]; omega
  have HE : Hid (¬ x = y) := fun h => hl (congrArg List.length h)
  go_enter Tryd.func72, Tryd.ntmps72
  go_wp2
  go_ret
  exact ⟨ret_bool (by simp [HE.out]), Below.refl _ _⟩
structure Kept (fp : List Nat) (w w' : World) : Prop where
 os : w'.os = w.os
 tape : w'.tape = w.tape
 output : w'.output = w.output
 size : w.heap.size ≤ w'.heap.size
 block : ∀ k, k < w.heap.size → k ∉ fp → w'.heap[k]? = w.heap[k]?
theorem Kept.refl (fp : List Nat) (w : World) : Kept fp w w := ⟨rfl, rfl, rfl, Nat.le_refl _, fun _ _ _ => rfl⟩
theorem Kept.trans {fp : List Nat} {a b c : World} (h : Kept fp a b) (k : Kept fp b c) : Kept fp a c :=
 ⟨k.os.trans h.os, k.tape.trans h.tape, k.output.trans h.output, Nat.le_trans h.size k.size, fun i hi hn => (k.block i (Nat.lt_of_lt_of_le hi h.size) hn).trans (h.block i hi hn)⟩
theorem Kept.mono {fp gp : List Nat} {a b : World} (h : Kept fp a b) (hs : ∀ x ∈ fp, x ∈ gp) : Kept gp a b :=
 ⟨h.os, h.tape, h.output, h.size, fun i hi hn => h.block i hi (fun hm => hn (hs i hm))⟩
theorem Kept.of_below {fp : List Nat} {a b : World} (h : Below a.heap.size a b) : Kept fp a b := ⟨h.os, h.tape, h.output, h.size, fun i hi _ => h.block i hi⟩
theorem Kept.below {fp : List Nat} {a b : World} {B : Nat} (h : Kept fp a b) (hB : B ≤ a.heap.size) (hf : ∀ x ∈ fp, B ≤ x) : Below B a b :=
 ⟨h.os, h.tape, h.output, h.size, fun i hi => h.block i b_18 (fun hm => by have := hf i hm; omega)⟩
theorem Kept.set {fp : List Nat} {a b : World} (h : Kept fp a b) {p : Addr} (hp : p.block ∈ fp) (u : Value) : Kept fp a (b.setCell p u) :=
 ⟨h.os, h.tape, h.output, by simpa [World.setCell] using h.size, fun i hi hn => (Below.heap_setCell _ _ _ _ (fun e => hn (by rw [e]; exact hp))).trans (h.block i hi hn)⟩
theorem Kept.drewN {fp : List Nat} {a b : World} (h : Kept fp a b) (n : Nat) : Kept fp a (b.drewN n) := ⟨h.os, h.tape, h.output, h.size, h.block⟩
theorem Kept.drew {fp : List Nat} {a b : World} (h : Kept fp a b) : Kept fp a b.drew := ⟨h.os, h.tape, h.output, h.size, h.block⟩
theorem Kept.step {fp : List Nat} {a b c : World} (h : Kept fp a b) (k : Below b.heap.size b c) : Kept fp a c := h.trans (Kept.of_below k)
def digLoop : Nat → Int → List UInt8 → List UInt8
 | 0, _, out => out
 | f + 1, k, out => if k ≤ 0 then out else digLoop f (k / 10) (UInt8.ofNat (48 + k % 10).toNat :: out)
def mkText (k : Int) : List UInt8 := if k ≤ 0 then [109, 48] else 109 :: digLoop 20 k []
def DigInv (f : Nat) (kk : Int) (out : List UInt8) (k : Int) : Prop := digLoop 20 k [] = digLoop f kk out ∧ kk < 10 ^ f
theorem DigInv.done {f : Nat} {kk : Int} {out : List UInt8} {k : Int} (h : DigInv f kk out k) (hk : kk ≤ 0) : digLoop 20 k [] = out := by
 rw [h.1]
 cases f with
 | zero => rfl
 | succ f => rw [digLoop, if_pos hk]
theorem DigInv.step {f : Nat} {kk : Int} {out : List UInt8} {k : Int} (h : DigInv f kk out k) (hk : 0 < kk) : ∃ g, f = g + 1 ∧ DigInv g (kk / 10) (UInt8.ofNat (48 + kk % 10).toNat :: out) k := by
 cases f with
 | zero => have := h.2; simp at this; omega
 | succ g =>
  refine ⟨g, rfl, by rw [h.1, digLoop, if_neg b_18], ?_⟩
  have := h.2
  rw [Int.pow_succ] at this
  omega
def Ty.cnt : (t : Ty) → t.D → Nat
 | .int, _ => 1
 | .byte, _ => 1
 | .bool, _ => 0
 | .str, _ => 1
 | .sl e, x => (List.map (fun d => e.cnt d) x).sum
 | .pr a b, x => a.cnt x.1 + b.cnt x.2
def mkSl {α : Type} (f : α → Int → α) (c : α → Nat) : List α → Int → List α
 | [], _ => []
 | a :: l, k => f a k :: mkSl f c l (k + c a)
def Ty.mk : (t : Ty) → t.D → Int → t.D
 | .int, _, k => k
 | .byte, _, k => UInt8.ofNat (k % 256).toNat
 | .bool, b, _ => b
 | .str, _, k => mkText k
 | .sl e, x, k => mkSl (fun d k => e.mk d k) (fun d => e.cnt d) x k
 | .pr a b, x, k => (a.mk x.1 k, b.mk x.2 (k + a.cnt x.1))
def Ty.k0 : Ty → Nat
 | .int => 1 | .byte => 1 | .bool => 0 | .str => 1
 | .sl _ => 0
 | .pr a b => a.k0 + b.k0
theorem length_mkSl {α : Type} (f : α → Int → α) (c : α → Nat) : ∀ (l : List α) (k : Int), (mkSl f c l k).length = l.length
 | [], _ => rfl
 | a :: l, k => by rw [mkSl, List.length_cons, length_mkSl f c l, List.length_cons]
def mkTo {α : Type} (f : α → Int → α) (c : α → Nat) (l : List α) (k : Int) (j : Nat) : List α := (mkSl f c l k).take j ++ l.drop j
theorem mkTo_zero {α : Type} (f : α → Int → α) (c : α → Nat) (l : List α) (k : Int) : mkTo f c l k 0 = l := by simp [mkTo]
theorem mkTo_all {α : Type} (f : α → Int → α) (c : α → Nat) (l : List α) (k : Int) : mkTo f c l k l.length = mkSl f c l k := by
 rw [mkTo, List.drop_length, List.append_nil, List.take_of_length_le (by rw [length_mkSl]; exact Nat.le_refl _)]
theorem Ty.sz_pos : ∀ t : Ty, 0 < t.sz
 | .int => Nat.one_pos
 | .byte => Nat.one_pos
 | .bool => Nat.one_pos
 | .str => Nat.one_pos
 | .sl _ => Nat.one_pos
 | .pr a b => Nat.lt_of_lt_of_le (Ty.sz_pos a) (Nat.le_add_right _ _)
theorem Ty.ow_lt {w : World} : ∀ {t : Ty} {cs : List Value} {x : t.D} {fp : List Nat}, t.ow w cs x fp → ∀ b ∈ fp, b < w.heap.size
 | .int, _, _, _, h, b, hb => by rw [h.2] at hb; cases hb
 | .byte, _, _, _, h, b, hb => by rw [h.2] at hb; cases hb
 | .bool, _, _, _, h, b, hb => by rw [h.2] at hb; cases hb
 | .str, _, _, _, h, b, hb => by rw [h.2] at hb; cases hb
 | .sl e, _, x, _, ⟨A, c, h1, h2, h3, h4, h5⟩, b, hb => by
  rcases h5 with h5 | ⟨h0, g, o, fs, hA, hfp, hc⟩
  ·rw [h5.2] at hb; cases hb
  ·rw [hfp] at hb
   rcases List.mem_cons.1 hb with rfl | hb
   ·obtain ⟨ds, hl, hcell, _⟩ := hc 0 h0
    have hz := Ty.sz_pos e
    have hv : w.cell? ⟨b, o + 0 * e.sz + 0, none⟩ = some (ds[0]'(by omega)) := by rw [(hcell 0 hz).1]; exact List.getElem?_eq_getElem b_18
    exact World.block_lt_of_cell? w _ hv
   ·obtain ⟨i, hi, hb⟩ := List.mem_flatMap.1 hb
    obtain ⟨ds, hl, hcell, hr⟩ := hc i (List.mem_range.1 hi)
    exact Ty.ow_lt hr b hb
 | .pr _ _, _, _, _, ⟨c1, c2, f1, f2, h, hf, h1, h2⟩, b, hb => by
  rw [hf] at hb
  rcases List.mem_append.1 hb with hb | hb
  ·exact Ty.ow_lt h1 b hb
  ·exact Ty.ow_lt h2 b hb
theorem Ty.ow_bel {w w' : World} (hb : Below w.heap.size w w') {t : Ty} {cs : List Value} {x : t.D} {fp : List Nat} (h : t.ow w cs x fp) : t.ow w' cs x fp :=
 Ty.ow_keep (fun b hb' => hb.block b (Ty.ow_lt h b hb')) h
def RetMk (w : World) (t : Ty) (cs : List Value) (x : t.D) (fp : List Nat) (k : Int) (e : Ending) (w' : World) : Prop := e = .returned (.int .i64 k) ∧ t.ow w' cs x fp ∧ Kept fp w w'
def MkInv (e : Ty) (A : Option Addr) (c : Nat) (x : List e.D) (fp : List Nat) (k : Int) (w : World) (j : Nat) (wr : World) : Prop :=
 (Ty.sl e).ow wr [.slice A x.length c] (mkTo (fun d k => e.mk d k) (fun d => e.cnt d) x k j) fp ∧ Kept fp w wr
theorem MkInv.zero {e : Ty} {A : Option Addr} {c : Nat} {x : List e.D} {fp : List Nat} {k : Int} {w : World} (h : (Ty.sl e).ow w [.slice A x.length c] x fp) : MkInv e A c x fp k w 0 w := by
 refine ⟨?_, Kept.refl _ _⟩
 rw [mkTo_zero]
 exact h
theorem MkInv.done {e : Ty} {A : Option Addr} {c : Nat} {x : List e.D} {fp : List Nat} {k kk : Int} {w wr : World} (h : MkInv e A c x fp k w x.length wr) :
  RetMk w (.sl e) [.slice A x.length c] (Ty.mk (.sl e) x k) fp kk (.returned (.int .i64 kk)) wr := by
 refine ⟨rfl, ?_, h.2⟩
 have := h.1
 rw [mkTo_all] at this
 exact this
def okByte (c : UInt8) : Bool := (decide (97 ≤ c.toNat) && decide (c.toNat ≤ 122)) || (decide (48 ≤ c.toNat) && decide (c.toNat ≤ 57)) || decide (c.toNat = 45)
def validPart (s : List UInt8) : Bool := s.all okByte && (decide (1 ≤ s.length) && decide (s.length ≤ 8))
def validName (n : List (List UInt8)) : Bool := n.all validPart && decide (n.length ≤ 6)
theorem all_take_succ {α : Type} (p : α → Bool) (l : List α) {k : Nat} (h : k < l.length) : (l.take (k + 1)).all p = ((l.take k).all p && p l[k]) := by
 rw [List.take_succ_eq_append_getElem h, List.all_append]; simp
theorem all_false_of {α : Type} (p : α → Bool) (l : List α) {k : Nat} (h : k < l.length) (hp : p l[k] = false) : l.all p = false := by
 rw [List.all_eq_false]; exact ⟨l[k], List.getElem_mem h, by simp [hp]⟩
theorem any_take_succ {α : Type} (p : α → Bool) (l : List α) {k : Nat} (h : k < l.length) : (l.take (k + 1)).any p = ((l.take k).any p || p l[k]) := by
 rw [List.take_succ_eq_append_getElem h, List.any_append]; simp
theorem C_impl_EqualNames (w : World) (cs1 cs2 : List Value) (x y : List (List UInt8)) (h1 : (Ty.sl .str).rd w cs1 x) (h2 : (Ty.sl .str).rd w cs2 y) :
  Calls Tryd.prog 56 #[.agg cs1.toArray, .agg cs2.toArray] w (RetB w (decide (x = y))) := by
 obtain ⟨A1, c1, rfl⟩ := Ty.rd_slv h1
 obtain ⟨A2, c2, rfl⟩ := Ty.rd_slv h2
 go_enter Tryd.func56, Tryd.ntmps56
 go_wp2_with fail
 refine (C_slices_Equal_str _ _ _ x y (Ty.rd_below b_3 h1) (Ty.rd_below b_3 h2)).mono ?_
 rintro e w1 ⟨rfl, hb1⟩
 have hw1 : Below w.heap.size w w1 := bel_trans b_3 hb1
 go_wp2
 go_ret
 exact ⟨rfl, hw1⟩
theorem C_laws_sameG (w : World) (v1 v2 : Value) (x y : List (UInt8)) (h1 : (Ty.sl .byte).rd w [v1] x) (h2 : (Ty.sl .byte).rd w [v2] y) :
  Calls Tryd.prog 18 #[v1, v2] w (RetB w (decide (x = y))) := by
 obtain ⟨A1, c1, rfl, hc1, hm1, hn1⟩ := Ty.rd_sl h1
 obtain ⟨A2, c2, rfl, hc2, hm2, hn2⟩ := Ty.rd_sl h2
 by_cases hl : x.length = y.length
 ·have q1 : ((x.length : Int) != y.length) = false := by simp [hl]
  have HL := Lib.hid hl
  clear hl
  go_enter Tryd.func18, Tryd.ntmps18
  go_wp2
  go_loopw [5] (fun i wr => ∃ k : Nat, k ≤ x.length ∧ i = .int .i64 k ∧ x.take k = y.take k ∧ Below w.heap.size w wr) (fun i _ => x.length - (intOf i).toNat)
  case atStart => exact ⟨0, by omega, rfl, rfl, Below.refl _ _⟩
  case round =>
   obtain ⟨k, hk, rfl, htk, hb⟩ := hrel
   have HT := Lib.hid htk
   clear htk
   by_cases hlt : k < x.length
   ·have hlt2 : k < y.length := by have := HL.out; omega
    obtain ⟨b1, o1, rfl, e1⟩ := Ty.rd_byte_at (Ty.rd_below hb h1) hlt
    obtain ⟨b2, o2, rfl, e2⟩ := Ty.rd_byte_at (Ty.rd_below hb h2) hlt2
    have i3 : (0 : Int) ≤ (k : Int) := by omega
    have i4 : (k : Int) < (List.length x : Int) := by omega
    have i5 : (k : Int) < (List.length y : Int) := by omega
    by_cases he : x[k] = y[k]
    ·have q2 : ((x[k].toNat : Int) != y[k].toNat) = false := by simp [he]
     have HE := Lib.hid he
     clear he
     go_wp2
     go_quiet (fail)
     go_wp2
     go_roundw
     case rel => exact ⟨k + 1, by omega, by go_num, by rw [List.take_succ_eq_append_getElem hlt, List.take_succ_eq_append_getElem hlt2, HT.out, HE.out], bel_drewN hb _⟩
     case measure => simp [intOf]; omega
    ·have q2 : ((x[k].toNat : Int) != y[k].toNat) = true := by rw [bne_iff_ne]; intro h; exact he (UInt8.toNat_inj.1 b_18)
     have HE : Hid (¬ x = y) := fun h => he (by subst h; rfl)
     clear he
     go_wp2
     go_quiet (fail)
     go_wp2
     go_ret
     exact ⟨ret_bool (by simp [HE.out]), bel_drewN hb _⟩
   ·have HE : Hid (x = y) := by
     have h1 := HT.out
     rwa [List.take_of_length_le b_18, List.take_of_length_le (by have := HL.out; omega)] at h1
    go_wp2
    go_ret
    exact ⟨ret_bool (by simp [HE.out]), hb⟩
 ·have q1 : ((x.length : Int) != y.length) = true := by rw [bne_iff_ne]; omega
  have HE : Hid (¬ x = y) := fun h => hl (congrArg List.length h)
  go_enter Tryd.func18, Tryd.ntmps18
  go_wp2
  go_ret
  exact ⟨ret_bool (by simp [HE.out]), Below.refl _ _⟩
set_option maxHeartbeats 1000000 in
theorem C_laws_sameTextsG (w : World) (v1 v2 : Value) (x y : List (List UInt8)) (h1 : (Ty.sl .str).rd w [v1] x) (h2 : (Ty.sl .str).rd w [v2] y) :
  Calls Tryd.prog 55 #[v1, v2] w (RetB w (decide (x = y))) := by
 obtain ⟨A1, c1, rfl, hc1, hm1, hn1⟩ := Ty.rd_sl h1
 obtain ⟨A2, c2, rfl, hc2, hm2, hn2⟩ := Ty.rd_sl h2
 by_cases hl : x.length = y.length
 ·have q1 : ((x.length : Int) != y.length) = false := by simp [hl]
  have HL := Lib.hid hl
  clear hl
  go_enter Tryd.func55, Tryd.ntmps55
  go_wp2
  go_loopw [5] (fun i wr => ∃ k : Nat, k ≤ x.length ∧ i = .int .i64 k ∧ x.take k = y.take k ∧ Below w.heap.size w wr) (fun i _ => x.length - (intOf i).toNat)
  case atStart => exact ⟨0, by omega, rfl, rfl, Below.refl _ _⟩
  case round =>
   obtain ⟨k, hk, rfl, htk, hb⟩ := hrel
   have HT := Lib.hid htk
   clear htk
   by_cases hlt : k < x.length
   ·have hlt2 : k < y.length := by have := HL.out; omega
    obtain ⟨b1, o1, rfl, e1, _⟩ := Ty.rd_str_at (Ty.rd_below hb h1) hlt
    obtain ⟨b2, o2, rfl, e2, _⟩ := Ty.rd_str_at (Ty.rd_below hb h2) hlt2
    have i3 : (0 : Int) ≤ (k : Int) := by omega
    have i4 : (k : Int) < (List.length x : Int) := by omega
    have i5 : (k : Int) < (List.length y : Int) := by omega
    by_cases he : x[k] = y[k]
    ·have q2 : (!x[k] == y[k]) = false := by simp [he]
     have HE := Lib.hid he
     clear he
     go_wp2
     go_quiet (fail)
     go_wp2
     go_roundw
     case rel => exact ⟨k + 1, by omega, by go_num, by rw [List.take_succ_eq_append_getElem hlt, List.take_succ_eq_append_getElem hlt2, HT.out, HE.out], bel_drewN hb _⟩
     case measure => simp [intOf]; omega
    ·have q2 : (!x[k] == y[k]) = true := by simp [he]
     have HE : Hid (¬ x = y) := fun h => he (by subst h; rfl)
     clear he
     go_wp2
     go_quiet (fail)
     go_wp2
     go_ret
     exact ⟨ret_bool (by simp [HE.out]), bel_drewN hb _⟩
   ·have HE : Hid (x = y) := by
     have h1 := HT.out
     rwa [List.take_of_length_le b_18, List.take_of_length_le (by have := HL.out; omega)] at h1
    go_wp2
    go_ret
    exact ⟨ret_bool (by simp [HE.out]), hb⟩
 ·have q1 : ((x.length : Int) != y.length) = true := by rw [bne_iff_ne]; omega
  have HE : Hid (¬ x = y) := fun h => hl (congrArg List.length h)
  go_enter Tryd.func55, Tryd.ntmps55
  go_wp2
  go_ret
  exact ⟨ret_bool (by simp [HE.out]), Below.refl _ _⟩
set_option maxHeartbeats 1000000 in
theorem C_laws_sameNameG (w : World) (cs1 cs2 : List Value) (x y : List (List UInt8)) (h1 : (Ty.sl .str).rd w cs1 x) (h2 : (Ty.sl .str).rd w cs2 y) :
  Calls Tryd.prog 23 #[.agg cs1.toArray, .agg cs2.toArray] w (RetB w (decide (x = y))) := by
 obtain ⟨A1, c1, rfl⟩ := Ty.rd_slv h1
 obtain ⟨A2, c2, rfl⟩ := Ty.rd_slv h2
 go_enter Tryd.func23, Tryd.ntmps23
 go_wp2_with fail
 refine (C_laws_sameTextsG _ _ _ _ _ (Ty.rd_below b_3 h1) (Ty.rd_below b_3 h2)).mono ?_
 rintro e w1 ⟨rfl, hb1⟩
 have hw1 : Below w.heap.size w w1 := bel_trans b_3 hb1
 go_wp2
 go_ret
 exact ⟨rfl, b_3⟩
def RetBP (w : World) (b : Bool) (e : Ending) (w' : World) : Prop := e = .returned (.bool b) ∧ w' = w
def inR (x a b : Int) : Bool := decide (a ≤ x) && decide (x ≤ b)
set_option maxHeartbeats 400000 in
theorem C_spec_l1In (w : World) (x a b : Int) : Calls Tryd.prog 62 #[.int .i64 x, .int .i64 a, .int .i64 b] w (RetBP w (inR x a b)) := by
 go_enter Tryd.func62, Tryd.ntmps62
 go_wp2
 all_goals go_ret
 all_goals exact ⟨ret_bool (by unfold inR; (rw [Bool.eq_iff_iff]; simp; try omega)), rfl⟩
set_option maxHeartbeats 400000 in
theorem C_impl_InRange (w : World) (x a b : Int) : Calls Tryd.prog 61 #[.int .i64 x, .int .i64 a, .int .i64 b] w (RetBP w (inR x a b)) := by
 go_enter Tryd.func61, Tryd.ntmps61
 go_wp2
 all_goals go_ret
 all_goals exact ⟨ret_bool (by unfold inR; (rw [Bool.eq_iff_iff]; simp; try omega)), rfl⟩
theorem okByte_iff (s : List UInt8) (k : Nat) (h : k < s.length) (c : Int) (hc : c = (s[k].toNat : Int)) : okByte s[k] = true ↔ (97 ≤ c ∧ c ≤ 122) ∨ (48 ≤ c ∧ c ≤ 57) ∨ c = 45 := by
 subst hc; unfold okByte; simp; omega
theorem okByte_no (s : List UInt8) (k : Nat) (h : k < s.length) (c : Int) (hc : c = (s[k].toNat : Int)) (hn : ¬ ((97 ≤ c ∧ c ≤ 122) ∨ (48 ≤ c ∧ c ≤ 57) ∨ c = 45)) : okByte s[k] = false := by
 cases hq : okByte s[k]
 ·rfl
 ·exact absurd ((okByte_iff s k h c hc).1 hq) hn
theorem bytes_at (s : List UInt8) (k : Nat) (h : k < s.length) (h2 : k < ({ data := s.toArray } : ByteArray).size) : ((({ data := s.toArray } : ByteArray)[k].toNat : Nat) : Int) = (s[k].toNat : Int) := rfl
set_option maxHeartbeats 1000000 in
theorem C_impl_ValidPart (w : World) (s : List UInt8) (hs : s.length ≤ 9223372036854775807) : Calls Tryd.prog 68 #[vS s] w (RetBP w (validPart s)) := by
  go_enter Tryd.func68, Tryd.ntmps68
  go_wp2
  go_loopw [7] (fun i wr => ∃ k : Nat, k ≤ s.length ∧ i = .int .i64 k ∧ (s.take k).all okByte = true ∧ wr = w) (fun i _ => s.length - (intOf i).toNat)
  case atStart => exact ⟨0, by omega, by first | rfl | simp, rfl, rfl⟩
  case round =>
    obtain ⟨k, hk, rfl, ht, rfl⟩ := hrel
    have HT := Lib.hid ht
    clear ht
    by_cases hlt : k < s.length
    · have hs1 := all_take_succ okByte s hlt
      have HS := Lib.hid hs1
      clear hs1
      go_wp2
      all_goals (try simp only [Bool.not_eq_false', decide_eq_true_eq, beq_iff_eq, Bool.not_eq_true', decide_eq_false_iff_not, beq_eq_false_iff_ne, ne_eq] at *)
      all_goals first
        | (go_ret
           exact ⟨ret_bool (by unfold validPart; rw [all_false_of okByte s hlt (okByte_no s k hlt _ (bytes_at s k hlt hlt) b_18)]; rfl), rfl⟩)
        | exact ⟨⟨k + 1, by omega, by go_num, by rw [HS.out, HT.out, (okByte_iff s k hlt _ (bytes_at s k hlt hlt)).2 b_18]; rfl, by first | rfl | trivial⟩, by simp [intOf]; omega⟩
    · have HE : Hid (s.all okByte = true) := by have := HT.out; rwa [List.take_of_length_le b_18] at this
      go_wp2_with fail
      refine (C_impl_InRange _ _ _ _).mono ?_
      rintro e w1 ⟨rfl, rfl⟩
      go_wp2
      go_ret
      exact ⟨ret_bool (by unfold validPart inR; rw [HE.out]; (rw [Bool.eq_iff_iff]; simp; try omega)), rfl⟩
set_option maxHeartbeats 400000 in
theorem C_impl_ValidName1 (w : World) (s : List UInt8) (hs : s.length ≤ 9223372036854775807) : Calls Tryd.prog 67 #[vS s] w (RetBP w (!validPart s)) := by
 go_enter Tryd.func67, Tryd.ntmps67
 go_wp2_with fail
 refine (C_impl_ValidPart _ _ hs).mono ?_
 rintro e w1 ⟨rfl, rfl⟩
 go_wp2
 go_ret
 exact ⟨rfl, rfl⟩
set_option maxHeartbeats 1000000 in
theorem C_spec_ValidPart (w : World) (s : List UInt8) (hs : s.length ≤ 9223372036854775807) : Calls Tryd.prog 69 #[vS s] w (RetBP w (validPart s)) := by
 go_enter Tryd.func69, Tryd.ntmps69
 go_wp2_with fail
 refine (C_spec_l1In _ _ _ _).mono ?_
 rintro e w1 ⟨rfl, rfl⟩
 cases hq : inR s.length 1 8
 ·go_wp2
  go_ret
  exact ⟨ret_bool (by unfold validPart; unfold inR at hq; rw [show (decide (1 ≤ s.length) && decide (s.length ≤ 8)) = false from by (rw [Bool.eq_iff_iff] at hq ⊢; simp at hq ⊢; omega)]; simp), rfl⟩
 have HL := Lib.hid hq
 go_wp2
 go_loopw [3] (fun i wr => ∃ k : Nat, k ≤ s.length ∧ i = .int .i64 k ∧ (s.take k).all okByte = true ∧ wr = w1) (fun i _ => s.length - (intOf i).toNat)
 case atStart => exact ⟨0, by omega, by first | rfl | simp, rfl, rfl⟩
 case round =>
  obtain ⟨k, hk, rfl, ht, rfl⟩ := hrel
  have HT := Lib.hid ht
  clear ht
  by_cases hlt : k < s.length
  ·have hs1 := all_take_succ okByte s hlt
   have HS := Lib.hid hs1
   clear hs1
   have HR : Hid (∀ c : Int, c = (s[k].toNat : Int) → okByte s[k] = (inR c 97 122 || inR c 48 57 || decide (c = 45))) := fun c hc => by
    subst hc; unfold okByte inR; (rw [Bool.eq_iff_iff]; simp; omega)
   go_wp2_with fail
   have hr := HR.out _ (bytes_at s k hlt hlt)
   have hcb : 0 ≤ (s[k].toNat : Int) ∧ (s[k].toNat : Int) ≤ 255 := by have := UInt8.toNat_lt s[k]; omega
   rw [← bytes_at s k hlt hlt] at hcb
   generalize ((({ data := s.toArray } : ByteArray)[k]'hlt).toNat : Int) = c at hr hcb ⊢
   have hwc : wrap64 c = c := by unfold wrap64; omega
   try rw [hwc]
   refine (C_spec_l1In _ c _ _).mono ?_
   rintro e w2 ⟨rfl, rfl⟩
   cases h1 : inR c 97 122
   ·go_wp2_with fail
    try rw [hwc]
    refine (C_spec_l1In _ c _ _).mono ?_
    rintro e w3 ⟨rfl, rfl⟩
    cases h2 : inR c 48 57
    ·by_cases h3 : c = 45
     ·have q3 : (c != 45) = false := by simp [h3]
      have HC := Lib.hid (show okByte s[k] = true from by rw [hr, h1, h2]; simp [h3])
      clear h3 hr
      go_wp2
      go_roundw
      case rel => exact ⟨k + 1, by omega, by go_num, by rw [HS.out, HT.out, HC.out]; rfl, by first | rfl | trivial⟩
      case measure => simp [intOf]; omega
     ·have q3 : (c != 45) = true := by simp [h3]
      have HC := Lib.hid (show okByte s[k] = false from by rw [hr, h1, h2]; simp [h3])
      clear h3 hr
      go_wp2
      go_ret
      exact ⟨ret_bool (by unfold validPart; rw [all_false_of okByte s hlt HC.out]; rfl), rfl⟩
    ·have HC := Lib.hid (show okByte s[k] = true from by rw [hr, h1, h2]; simp)
     clear hr
     go_wp2
     go_roundw
     case rel => exact ⟨k + 1, by omega, by go_num, by rw [HS.out, HT.out, HC.out]; rfl, by first | rfl | trivial⟩
     case measure => simp [intOf]; omega
   ·have HC := Lib.hid (show okByte s[k] = true from by rw [hr, h1]; simp)
    clear hr
    go_wp2
    go_roundw
    case rel => exact ⟨k + 1, by omega, by go_num, by rw [HS.out, HT.out, HC.out]; rfl, by first | rfl | trivial⟩
    case measure => simp [intOf]; omega
  ·have HE : Hid (s.all okByte = true) := by have := HT.out; rwa [List.take_of_length_le b_18] at this
   go_wp2
   go_ret
   exact ⟨ret_bool (by unfold validPart; rw [HE.out]; have := HL.out; unfold inR at this; simp at this ⊢; omega), rfl⟩
set_option maxHeartbeats 1000000 in
theorem C_spec_ValidName (w : World) (cs : List Value) (x : List (List UInt8)) (h : (Ty.sl .str).rd w cs x) :
  Calls Tryd.prog 45 #[.agg cs.toArray] w (RetB w (validName x)) := by
 obtain ⟨A, c, rfl⟩ := Ty.rd_slv h
 obtain ⟨_, _, _, hcc, hmm, hn⟩ := Ty.rd_sl h
 go_enter Tryd.func45, Tryd.ntmps45
 go_wp2
 go_loopw [3] (fun i wr => ∃ k : Nat, k ≤ x.length ∧ i = .int .i64 k ∧ (x.take k).all validPart = true ∧ Below (w.alloc (.cells #[.slice A x.length c] 26)).heap.size (w.alloc (.cells #[.slice A x.length c] 26)) wr) (fun i _ => x.length - (intOf i).toNat)
 case atStart => exact ⟨0, by omega, rfl, by first | rfl | simp, Below.refl _ _⟩
 case round =>
  obtain ⟨k, hk, rfl, ht, hb⟩ := hrel
  have hw : Below w.heap.size w wr := bel_trans b_3 hb
  obtain ⟨hc, hf⟩ := bcell hb
  have HT := Lib.hid ht
  clear ht
  by_cases hlt : k < x.length
  ·have HS := Lib.hid (all_take_succ validPart x hlt)
   obtain ⟨b, o, rfl, e0, n0⟩ := Ty.rd_str_at (Ty.rd_below hw h) hlt
   go_wp2_with fail
   refine (C_spec_ValidPart _ _ n0).mono ?_
   rintro e w2 ⟨rfl, rfl⟩
   cases hq : validPart x[k]
   ·go_wp2
    go_ret
    exact ⟨ret_bool (by unfold validName; rw [all_false_of validPart x hlt hq]; rfl), hw⟩
   ·have HQ := Lib.hid hq
    go_wp2
    go_roundw
    case rel => exact ⟨k + 1, by omega, by go_num, by rw [HS.out, HT.out, HQ.out]; rfl, hb⟩
    case measure => simp [intOf]; omega
  ·have HE : Hid (x.all validPart = true) := by have := HT.out; rwa [List.take_of_length_le b_18] at this
   go_wp2
   go_ret
   exact ⟨ret_bool (by unfold validName; rw [HE.out]; (rw [Bool.eq_iff_iff]; simp; try omega)), hw⟩
def ixf {α : Type} (p : α → Bool) (x : List α) : Int := match x.findIdx? p with | some k => (k : Int) | none => -1
theorem ixf_hit {α : Type} (p : α → Bool) (x : List α) {k : Nat} (h : k < x.length) (ht : (x.take k).any p = false) (hp : p x[k] = true) : ixf p x = k := by
 unfold ixf
 rw [List.findIdx?_eq_some_iff_getElem.2 ⟨h, hp, fun j hj => by
  have := List.any_eq_false.1 ht ((x.take k)[j]'(by rw [List.length_take]; omega)) (List.getElem_mem _)
  rw [List.getElem_take] at this; exact this⟩]
theorem ixf_miss {α : Type} (p : α → Bool) (x : List α) (ht : x.any p = false) : ixf p x = -1 := by
 unfold ixf
 rw [List.findIdx?_eq_none_iff.2 (fun a ha => by simpa using List.any_eq_false.1 ht a ha)]
theorem ixf_ge {α : Type} (p : α → Bool) (x : List α) : decide (ixf p x ≥ 0) = x.any p := by
 unfold ixf
 cases hq : x.findIdx? p with
 | none => rw [List.findIdx?_eq_none_iff] at hq; symm; simp; exact hq
 | some k => rw [List.findIdx?_eq_some_iff_getElem] at hq; obtain ⟨h, hp, _⟩ := hq; symm; simp; exact ⟨x[k], List.getElem_mem h, hp⟩
set_option maxHeartbeats 1000000 in
theorem C_IndexFunc_str (w : World) (v : Value) (x : List (List UInt8)) (p : List UInt8 → Bool) (g : Nat) (lb : Array Value) (eg : ∀ args w, (callFunc g args).run Tryd.prog w = .ok (.enter g args) w)
  (h : (Ty.sl .str).rd w [v] x) (hp : ∀ (W : World) (s : List UInt8), s.length ≤ 9223372036854775807 → Below w.heap.size w W → Calls Tryd.prog g (#[vS s] ++ lb) W (RetB W (p s))) :
  Calls Tryd.prog 76 #[v, .func (.func g) #[] lb] w (RetI w (ixf p x)) := by
 obtain ⟨A, c, rfl, hc, hm, hn⟩ := Ty.rd_sl h
 have HP := Lib.hid hp
 clear hp
 go_enter Tryd.func76, Tryd.ntmps76
 go_wp2
 go_loopw [8] (fun i wr => ∃ k : Nat, k ≤ x.length ∧ i = .int .i64 k ∧ (x.take k).any p = false ∧ Below w.heap.size w wr) (fun i _ => x.length - (intOf i).toNat)
 case atStart => exact ⟨0, by omega, by first | rfl | simp, by first | rfl | simp, Below.refl _ _⟩
 case round =>
  obtain ⟨k, hk, rfl, ht, hb⟩ := hrel
  have HT := Lib.hid ht
  clear ht
  by_cases hlt : k < x.length
  ·have HS := Lib.hid (any_take_succ p x hlt)
   obtain ⟨b, o, rfl, e0, n0⟩ := Ty.rd_str_at (Ty.rd_below hb h) hlt
   have hcall := HP.out wr x[k] n0 hb
   cases hq : p x[k]
   ·have HQ := Lib.hid hq
    rw [hq] at hcall
    go_wp2_with (go_at_fn g; refine hcall.mono ?_; rintro e w' ⟨rfl, hb'⟩)
    go_roundw
    case rel => exact ⟨k + 1, by omega, by go_num, by rw [HS.out, HT.out, HQ.out]; rfl, bel_trans hb hb'⟩
    case measure => simp [intOf]; omega
   ·have HQ := Lib.hid hq
    rw [hq] at hcall
    go_wp2_with (go_at_fn g; refine hcall.mono ?_; rintro e w' ⟨rfl, hb'⟩)
    go_ret
    exact ⟨ret_int (ixf_hit p x hlt HT.out HQ.out).symm, bel_trans hb hb'⟩
  ·have HE : Hid (x.any p = false) := by have := HT.out; rwa [List.take_of_length_le b_18] at this
   go_wp2
   go_ret
   exact ⟨ret_int (ixf_miss p x HE.out).symm, hb⟩
set_option maxHeartbeats 1000000 in
theorem C_ContainsFunc_str (w : World) (v : Value) (x : List (List UInt8)) (p : List UInt8 → Bool) (g : Nat) (lb : Array Value) (eg : ∀ args w, (callFunc g args).run Tryd.prog w = .ok (.enter g args) w)
  (h : (Ty.sl .str).rd w [v] x) (hp : ∀ (W : World) (s : List UInt8), s.length ≤ 9223372036854775807 → Below w.heap.size w W → Calls Tryd.prog g (#[vS s] ++ lb) W (RetB W (p s))) :
  Calls Tryd.prog 66 #[v, .func (.func g) #[] lb] w (RetB w (x.any p)) := by
 have hcall := C_IndexFunc_str w v x p g lb eg h hp
 go_enter Tryd.func66, Tryd.ntmps66
 go_wp2_with fail
 refine hcall.mono ?_
 rintro e w1 ⟨rfl, hb⟩
 go_wp2
 go_ret
 exact ⟨ret_bool (ixf_ge p x), hb⟩
set_option maxHeartbeats 1000000 in
theorem C_impl_ValidName (w : World) (cs : List Value) (x : List (List UInt8)) (h : (Ty.sl .str).rd w cs x) :
  Calls Tryd.prog 42 #[.agg cs.toArray] w (RetB w (validName x)) := by
 obtain ⟨A, c, rfl⟩ := Ty.rd_slv h
 by_cases hl : x.length ≤ 6
 ·have HL := Lib.hid hl
  go_enter Tryd.func42, Tryd.ntmps42
  go_wp2_with fail
  refine (C_ContainsFunc_str _ _ x (fun s => !validPart s) 67 #[] (enters_of Tryd.func67 b_15 rfl) (Ty.rd_below b_3 h) (fun W s hs _ => by rw [Array.append_empty]; refine (C_impl_ValidName1 W s hs).mono ?_; rintro e w' ⟨rfl, rfl⟩; exact ⟨rfl, Below.refl _ _⟩)).mono ?_
  rintro e w1 ⟨rfl, hb⟩
  have hw1 : Below w.heap.size w w1 := bel_trans b_3 hb
  go_wp2
  go_ret
  exact ⟨ret_bool (by unfold validName; have := HL.out; (rw [Bool.eq_iff_iff]; simp; try omega)), hw1⟩
 ·have HL := Lib.hid hl
  go_enter Tryd.func42, Tryd.ntmps42
  go_wp2
  go_ret
  exact ⟨ret_bool (by unfold validName; have := HL.out; (rw [Bool.eq_iff_iff]; simp; try omega)), b_3⟩
theorem infoI : (Tryd.prog.info? 3).map (fun i => (i.zero, i.size, i.bytes)) = some (some (.int .i64 0), 1, 8) := by kernel_rfl
theorem infoB : (Tryd.prog.info? 5).map (fun i => (i.zero, i.size, i.bytes)) = some (some (.int .u8 0), 1, 1) := by kernel_rfl
theorem okI {n : Int} (h1 : -9223372036854775808 ≤ n) (h2 : n ≤ 9223372036854775807) : flatI.ok n := ⟨h1, h2⟩
def pre (n : Int) (y : List UInt8) : List Int := n :: y.map fun c => (c.toNat : Int)
end Go.Proofs.YtidnahocnhcoiaaDoor
