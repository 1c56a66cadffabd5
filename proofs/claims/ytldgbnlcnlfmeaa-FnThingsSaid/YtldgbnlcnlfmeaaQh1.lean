/- Texts of this claim, merged by a program: Stp Mkb Drw Cur Str Cuw Pure Hlp Nb. -/
import Derived.Test.YtldgbnlcnlfmeaaQhP
import Derived.Test.YtldgbnlcnlfmeaaQh0
import Derived.Deep.RegionHeld3
import Derived.Maps.AppendAt
import Derived.Test.YtldgbnlcnlfmeaaRows
import Derived.Laws.BitsLemmas
import Derived.BigQuiet
import Derived.StillTailTactics
namespace Go.Proofs.Ytldgbnlcnlfmeaa
open Go.RowKit
set_option linter.unusedVariables false
set_option linter.unusedSimpArgs false
theorem viaP {p q : Prop} (h : p) (k : p → q) : q := k h
theorem opN {l : List Oper} {i : Nat} {x : Oper} (h : (l.drop i).head? = some x) : l.toArray[i]? = some x := by
 rw [List.head?_drop] at h
 simpa using h
section
variable {P : Program} {ops : Array Oper} {Q : Exit → Act → World → Prop} {S : World → Prop}
theorem tk (i : Nat) {oi : Oper} {v : Value} {fuel : Nat} {listed : Array Bool} {a : Act} {w : World} (hi : ops[i]? = some oi)
  (hb : (Region.noSelect ops && (Region.free .any ops listed i && (Region.ready .any ops listed).contains i)) = true)
  (hw : Region.wanted oi (yielded ops a.tmps) = true) (hv : ∀ w, S w → (execOp a.eval oi).run P w = .ok (.value v) w) (hS : S w)
  (h : wpAnyH P .any ops (NoPanic Q) S fuel (listed.setIfInBounds i true) (a.put oi.dst v) w) : wpAnyH P .any ops (NoPanic Q) S (fuel + 1) listed a w := by
 simp only [Bool.and_eq_true] at hb
 exact wpAnyH_take hi hb.1 hb.2.1 hb.2.2 (fun _ _ _ h => h) (Or.inl ⟨hw, hv⟩) hS h
theorem sk (i : Nat) {oi : Oper} {fuel : Nat} {listed : Array Bool} {a : Act} {w : World} (hi : ops[i]? = some oi)
  (hb : (Region.noSelect ops && (Region.free .any ops listed i && (Region.ready .any ops listed).contains i)) = true)
  (hw : Region.wanted oi (yielded ops a.tmps) = false) (hS : S w)
  (h : wpAnyH P .any ops (NoPanic Q) S fuel (listed.setIfInBounds i true) (a.put oi.dst undef) w) : wpAnyH P .any ops (NoPanic Q) S (fuel + 1) listed a w := by
 simp only [Bool.and_eq_true] at hb
 exact wpAnyH_take hi hb.1 hb.2.1 hb.2.2 (fun _ _ _ h => h) (Or.inr ⟨hw, rfl⟩) hS h
end
theorem layz : (∀ (a : Act) (d : Tmp) (v : Value), a.put (some d) v = { a with tmps := a.tmps.setIfInBounds d v }) ∧ (∀ (a : Act) (v : Value), a.put none v = a) ∧ (∀ {α : Type} (l : List α) (i : Nat) (x : α), l.toArray.setIfInBounds i x = (l.set i x).toArray) ∧ (∀ {α : Type} (x y : α) (l : List α), (x :: l).set 0 y = y :: l) ∧ (∀ {α : Type} (x y : α) (n : Nat) (l : List α), (x :: l).set (n + 1) y = x :: l.set n y) :=
 ⟨fun _ _ _ => rfl, fun _ _ => rfl, fun _ _ _ => List.setIfInBounds_toArray .., fun _ _ _ => rfl, fun _ _ _ _ => rfl⟩
section
variable {P : Program} {ops : Array Oper} {Q : Exit → Act → World → Prop} {S : World → Prop} {fuel : Nat} {listed : Array Bool} {a : Act} {w : World}
theorem tkz (i : Nat) {oi : Oper} {v : Value} (h : wpAnyH P .any ops (NoPanic Q) S fuel (listed.setIfInBounds i true) (a.put oi.dst v) w)
  (hi : ops[i]? = some oi := by exact opN rfl)
  (hb : (Region.noSelect ops && (Region.free .any ops listed i && (Region.ready .any ops listed).contains i)) = true := by kernel_rfl)
  (hw : Region.wanted oi (yielded ops a.tmps) = true := by rfl)
  (hv : ∀ w, S w → (execOp a.eval oi).run P w = .ok (.value v) w := by (intro w hSw; (try dsimp only at hSw); go_simp; first | done | with_reducible rfl))
  (hS : S w := by assumption) : wpAnyH P .any ops (NoPanic Q) S (fuel + 1) listed a w := tk i hi hb hw hv hS h
theorem skz (i : Nat) {oi : Oper} (h : wpAnyH P .any ops (NoPanic Q) S fuel (listed.setIfInBounds i true) (a.put oi.dst undef) w)
  (hi : ops[i]? = some oi := by exact opN rfl)
  (hb : (Region.noSelect ops && (Region.free .any ops listed i && (Region.ready .any ops listed).contains i)) = true := by kernel_rfl)
  (hw : Region.wanted oi (yielded ops a.tmps) = false := by rfl)
  (hS : S w := by assumption) : wpAnyH P .any ops (NoPanic Q) S (fuel + 1) listed a w := sk i hi hb hw hS h
theorem rz1 (i : Nat) {oi : Oper} (hi : ∀ K : Act → World → Prop, Shut (∀ a w, S w → (S w → wpAnyH P .any ops (NoPanic Q) S fuel (listed.setIfInBounds i true) a w) → K a w) → if Region.wanted oi (yielded ops a.tmps) = true then Oper.wp P oi a w K (NoPanic Q) else K (a.put oi.dst undef) w) (hr : Region.ready .any ops listed = [i] := by kernel_rfl) (gi : ops[i]? = some oi := by exact opN rfl) : wpAnyH P .any ops (NoPanic Q) S (fuel + 1) listed a w := wpAnyH_ready hr b_30 (AllReadyH.cons gi hi AllReadyH.nil)
theorem rz2 (i j : Nat) {oi oj : Oper} (hi : ∀ K : Act → World → Prop, Shut (∀ a w, S w → (S w → wpAnyH P .any ops (NoPanic Q) S fuel (listed.setIfInBounds i true) a w) → K a w) → if Region.wanted oi (yielded ops a.tmps) = true then Oper.wp P oi a w K (NoPanic Q) else K (a.put oi.dst undef) w) (hj : ∀ K : Act → World → Prop, Shut (∀ a w, S w → (S w → wpAnyH P .any ops (NoPanic Q) S fuel (listed.setIfInBounds j true) a w) → K a w) → if Region.wanted oj (yielded ops a.tmps) = true then Oper.wp P oj a w K (NoPanic Q) else K (a.put oj.dst undef) w) (hr : Region.ready .any ops listed = [i, j] := by kernel_rfl) (gi : ops[i]? = some oi := by exact opN rfl) (gj : ops[j]? = some oj := by exact opN rfl) : wpAnyH P .any ops (NoPanic Q) S (fuel + 1) listed a w := wpAnyH_ready hr b_30 (AllReadyH.cons gi hi (AllReadyH.cons gj hj AllReadyH.nil))
theorem rz3 (i j k : Nat) {oi oj ok : Oper} (hi : ∀ K : Act → World → Prop, Shut (∀ a w, S w → (S w → wpAnyH P .any ops (NoPanic Q) S fuel (listed.setIfInBounds i true) a w) → K a w) → if Region.wanted oi (yielded ops a.tmps) = true then Oper.wp P oi a w K (NoPanic Q) else K (a.put oi.dst undef) w) (hj : ∀ K : Act → World → Prop, Shut (∀ a w, S w → (S w → wpAnyH P .any ops (NoPanic Q) S fuel (listed.setIfInBounds j true) a w) → K a w) → if Region.wanted oj (yielded ops a.tmps) = true then Oper.wp P oj a w K (NoPanic Q) else K (a.put oj.dst undef) w) (hk : ∀ K : Act → World → Prop, Shut (∀ a w, S w → (S w → wpAnyH P .any ops (NoPanic Q) S fuel (listed.setIfInBounds k true) a w) → K a w) → if Region.wanted ok (yielded ops a.tmps) = true then Oper.wp P ok a w K (NoPanic Q) else K (a.put ok.dst undef) w) (hr : Region.ready .any ops listed = [i, j, k] := by kernel_rfl) (gi : ops[i]? = some oi := by exact opN rfl) (gj : ops[j]? = some oj := by exact opN rfl) (gk : ops[k]? = some ok := by exact opN rfl) : wpAnyH P .any ops (NoPanic Q) S (fuel + 1) listed a w := wpAnyH_ready hr b_30 (AllReadyH.cons gi hi (AllReadyH.cons gj hj (AllReadyH.cons gk hk AllReadyH.nil)))
theorem rz4 (i j k l : Nat) {oi oj ok ol : Oper} (hi : ∀ K : Act → World → Prop, Shut (∀ a w, S w → (S w → wpAnyH P .any ops (NoPanic Q) S fuel (listed.setIfInBounds i true) a w) → K a w) → if Region.wanted oi (yielded ops a.tmps) = true then Oper.wp P oi a w K (NoPanic Q) else K (a.put oi.dst undef) w) (hj : ∀ K : Act → World → Prop, Shut (∀ a w, S w → (S w → wpAnyH P .any ops (NoPanic Q) S fuel (listed.setIfInBounds j true) a w) → K a w) → if Region.wanted oj (yielded ops a.tmps) = true then Oper.wp P oj a w K (NoPanic Q) else K (a.put oj.dst undef) w) (hk : ∀ K : Act → World → Prop, Shut (∀ a w, S w → (S w → wpAnyH P .any ops (NoPanic Q) S fuel (listed.setIfInBounds k true) a w) → K a w) → if Region.wanted ok (yielded ops a.tmps) = true then Oper.wp P ok a w K (NoPanic Q) else K (a.put ok.dst undef) w) (hl : ∀ K : Act → World → Prop, Shut (∀ a w, S w → (S w → wpAnyH P .any ops (NoPanic Q) S fuel (listed.setIfInBounds l true) a w) → K a w) → if Region.wanted ol (yielded ops a.tmps) = true then Oper.wp P ol a w K (NoPanic Q) else K (a.put ol.dst undef) w) (hr : Region.ready .any ops listed = [i, j, k, l] := by kernel_rfl) (gi : ops[i]? = some oi := by exact opN rfl) (gj : ops[j]? = some oj := by exact opN rfl) (gk : ops[k]? = some ok := by exact opN rfl) (gl : ops[l]? = some ol := by exact opN rfl) : wpAnyH P .any ops (NoPanic Q) S (fuel + 1) listed a w := wpAnyH_ready hr b_30 (AllReadyH.cons gi hi (AllReadyH.cons gj hj (AllReadyH.cons gk hk (AllReadyH.cons gl hl AllReadyH.nil))))
theorem rz5 (i j k l m : Nat) {oi oj ok ol om : Oper} (hi : ∀ K : Act → World → Prop, Shut (∀ a w, S w → (S w → wpAnyH P .any ops (NoPanic Q) S fuel (listed.setIfInBounds i true) a w) → K a w) → if Region.wanted oi (yielded ops a.tmps) = true then Oper.wp P oi a w K (NoPanic Q) else K (a.put oi.dst undef) w) (hj : ∀ K : Act → World → Prop, Shut (∀ a w, S w → (S w → wpAnyH P .any ops (NoPanic Q) S fuel (listed.setIfInBounds j true) a w) → K a w) → if Region.wanted oj (yielded ops a.tmps) = true then Oper.wp P oj a w K (NoPanic Q) else K (a.put oj.dst undef) w) (hk : ∀ K : Act → World → Prop, Shut (∀ a w, S w → (S w → wpAnyH P .any ops (NoPanic Q) S fuel (listed.setIfInBounds k true) a w) → K a w) → if Region.wanted ok (yielded ops a.tmps) = true then Oper.wp P ok a w K (NoPanic Q) else K (a.put ok.dst undef) w) (hl : ∀ K : Act → World → Prop, Shut (∀ a w, S w → (S w → wpAnyH P .any ops (NoPanic Q) S fuel (listed.setIfInBounds l true) a w) → K a w) → if Region.wanted ol (yielded ops a.tmps) = true then Oper.wp P ol a w K (NoPanic Q) else K (a.put ol.dst undef) w) (hm : ∀ K : Act → World → Prop, Shut (∀ a w, S w → (S w → wpAnyH P .any ops (NoPanic Q) S fuel (listed.setIfInBounds m true) a w) → K a w) → if Region.wanted om (yielded ops a.tmps) = true then Oper.wp P om a w K (NoPanic Q) else K (a.put om.dst undef) w) (hr : Region.ready .any ops listed = [i, j, k, l, m] := by kernel_rfl) (gi : ops[i]? = some oi := by exact opN rfl) (gj : ops[j]? = some oj := by exact opN rfl) (gk : ops[k]? = some ok := by exact opN rfl) (gl : ops[l]? = some ol := by exact opN rfl) (gm : ops[m]? = some om := by exact opN rfl) : wpAnyH P .any ops (NoPanic Q) S (fuel + 1) listed a w := wpAnyH_ready hr b_30 (AllReadyH.cons gi hi (AllReadyH.cons gj hj (AllReadyH.cons gk hk (AllReadyH.cons gl hl (AllReadyH.cons gm hm AllReadyH.nil)))))
theorem rz6 (i j k l m n : Nat) {oi oj ok ol om on : Oper} (hi : ∀ K : Act → World → Prop, Shut (∀ a w, S w → (S w → wpAnyH P .any ops (NoPanic Q) S fuel (listed.setIfInBounds i true) a w) → K a w) → if Region.wanted oi (yielded ops a.tmps) = true then Oper.wp P oi a w K (NoPanic Q) else K (a.put oi.dst undef) w) (hj : ∀ K : Act → World → Prop, Shut (∀ a w, S w → (S w → wpAnyH P .any ops (NoPanic Q) S fuel (listed.setIfInBounds j true) a w) → K a w) → if Region.wanted oj (yielded ops a.tmps) = true then Oper.wp P oj a w K (NoPanic Q) else K (a.put oj.dst undef) w) (hk : ∀ K : Act → World → Prop, Shut (∀ a w, S w → (S w → wpAnyH P .any ops (NoPanic Q) S fuel (listed.setIfInBounds k true) a w) → K a w) → if Region.wanted ok (yielded ops a.tmps) = true then Oper.wp P ok a w K (NoPanic Q) else K (a.put ok.dst undef) w) (hl : ∀ K : Act → World → Prop, Shut (∀ a w, S w → (S w → wpAnyH P .any ops (NoPanic Q) S fuel (listed.setIfInBounds l true) a w) → K a w) → if Region.wanted ol (yielded ops a.tmps) = true then Oper.wp P ol a w K (NoPanic Q) else K (a.put ol.dst undef) w) (hm : ∀ K : Act → World → Prop, Shut (∀ a w, S w → (S w → wpAnyH P .any ops (NoPanic Q) S fuel (listed.setIfInBounds m true) a w) → K a w) → if Region.wanted om (yielded ops a.tmps) = true then Oper.wp P om a w K (NoPanic Q) else K (a.put om.dst undef) w) (hn : ∀ K : Act → World → Prop, Shut (∀ a w, S w → (S w → wpAnyH P .any ops (NoPanic Q) S fuel (listed.setIfInBounds n true) a w) → K a w) → if Region.wanted on (yielded ops a.tmps) = true then Oper.wp P on a w K (NoPanic Q) else K (a.put on.dst undef) w) (hr : Region.ready .any ops listed = [i, j, k, l, m, n] := by kernel_rfl) (gi : ops[i]? = some oi := by exact opN rfl) (gj : ops[j]? = some oj := by exact opN rfl) (gk : ops[k]? = some ok := by exact opN rfl) (gl : ops[l]? = some ol := by exact opN rfl) (gm : ops[m]? = some om := by exact opN rfl) (gn : ops[n]? = some on := by exact opN rfl) : wpAnyH P .any ops (NoPanic Q) S (fuel + 1) listed a w := wpAnyH_ready hr b_30 (AllReadyH.cons gi hi (AllReadyH.cons gj hj (AllReadyH.cons gk hk (AllReadyH.cons gl hl (AllReadyH.cons gm hm (AllReadyH.cons gn hn AllReadyH.nil))))))
theorem tkz2 (i j : Nat) {oi oj : Oper} {xi xj : Value} (h : wpAnyH P .any ops (NoPanic Q) S fuel ((listed.setIfInBounds i true).setIfInBounds j true) ((a.put oi.dst xi).put oj.dst xj) w) (hi : ops[i]? = some oi := by exact opN rfl) (bi : (Region.noSelect ops && (Region.free .any ops listed i && (Region.ready .any ops listed).contains i)) = true := by kernel_rfl) (wi : Region.wanted oi (yielded ops a.tmps) = true := by first | (simp only [layz]; rfl) | rfl) (vi : ∀ w, S w → (execOp a.eval oi).run P w = .ok (.value xi) w := by (intro w hSw; (try simp only [layz]); (try dsimp only at hSw); go_simp; first | done | with_reducible rfl)) (hj : ops[j]? = some oj := by exact opN rfl) (bj : (Region.noSelect ops && (Region.free .any ops (listed.setIfInBounds i true) j && (Region.ready .any ops (listed.setIfInBounds i true)).contains j)) = true := by kernel_rfl) (wj : Region.wanted oj (yielded ops (a.put oi.dst xi).tmps) = true := by first | (simp only [layz]; rfl) | rfl) (vj : ∀ w, S w → (execOp (a.put oi.dst xi).eval oj).run P w = .ok (.value xj) w := by (intro w hSw; (try simp only [layz]); (try dsimp only at hSw); go_simp; first | done | with_reducible rfl)) (hS : S w := by assumption) : wpAnyH P .any ops (NoPanic Q) S (fuel + 1 + 1) listed a w := (tk i hi bi wi vi hS (tk j hj bj wj vj hS h))
theorem tkz3 (i j k : Nat) {oi oj ok : Oper} {xi xj xk : Value} (h : wpAnyH P .any ops (NoPanic Q) S fuel (((listed.setIfInBounds i true).setIfInBounds j true).setIfInBounds k true) (((a.put oi.dst xi).put oj.dst xj).put ok.dst xk) w) (hi : ops[i]? = some oi := by exact opN rfl) (bi : (Region.noSelect ops && (Region.free .any ops listed i && (Region.ready .any ops listed).contains i)) = true := by kernel_rfl) (wi : Region.wanted oi (yielded ops a.tmps) = true := by first | (simp only [layz]; rfl) | rfl) (vi : ∀ w, S w → (execOp a.eval oi).run P w = .ok (.value xi) w := by (intro w hSw; (try simp only [layz]); (try dsimp only at hSw); go_simp; first | done | with_reducible rfl)) (hj : ops[j]? = some oj := by exact opN rfl) (bj : (Region.noSelect ops && (Region.free .any ops (listed.setIfInBounds i true) j && (Region.ready .any ops (listed.setIfInBounds i true)).contains j)) = true := by kernel_rfl) (wj : Region.wanted oj (yielded ops (a.put oi.dst xi).tmps) = true := by first | (simp only [layz]; rfl) | rfl) (vj : ∀ w, S w → (execOp (a.put oi.dst xi).eval oj).run P w = .ok (.value xj) w := by (intro w hSw; (try simp only [layz]); (try dsimp only at hSw); go_simp; first | done | with_reducible rfl)) (hk : ops[k]? = some ok := by exact opN rfl) (bk : (Region.noSelect ops && (Region.free .any ops ((listed.setIfInBounds i true).setIfInBounds j true) k && (Region.ready .any ops ((listed.setIfInBounds i true).setIfInBounds j true)).contains k)) = true := by kernel_rfl) (wk : Region.wanted ok (yielded ops ((a.put oi.dst xi).put oj.dst xj).tmps) = true := by first | (simp only [layz]; rfl) | rfl) (vk : ∀ w, S w → (execOp ((a.put oi.dst xi).put oj.dst xj).eval ok).run P w = .ok (.value xk) w := by (intro w hSw; (try simp only [layz]); (try dsimp only at hSw); go_simp; first | done | with_reducible rfl)) (hS : S w := by assumption) : wpAnyH P .any ops (NoPanic Q) S (fuel + 1 + 1 + 1) listed a w := (tk i hi bi wi vi hS (tk j hj bj wj vj hS (tk k hk bk wk vk hS h)))
theorem tkz4 (i j k l : Nat) {oi oj ok ol : Oper} {xi xj xk xl : Value} (h : wpAnyH P .any ops (NoPanic Q) S fuel ((((listed.setIfInBounds i true).setIfInBounds j true).setIfInBounds k true).setIfInBounds l true) ((((a.put oi.dst xi).put oj.dst xj).put ok.dst xk).put ol.dst xl) w) (hi : ops[i]? = some oi := by exact opN rfl) (bi : (Region.noSelect ops && (Region.free .any ops listed i && (Region.ready .any ops listed).contains i)) = true := by kernel_rfl) (wi : Region.wanted oi (yielded ops a.tmps) = true := by first | (simp only [layz]; rfl) | rfl) (vi : ∀ w, S w → (execOp a.eval oi).run P w = .ok (.value xi) w := by (intro w hSw; (try simp only [layz]); (try dsimp only at hSw); go_simp; first | done | with_reducible rfl)) (hj : ops[j]? = some oj := by exact opN rfl) (bj : (Region.noSelect ops && (Region.free .any ops (listed.setIfInBounds i true) j && (Region.ready .any ops (listed.setIfInBounds i true)).contains j)) = true := by kernel_rfl) (wj : Region.wanted oj (yielded ops (a.put oi.dst xi).tmps) = true := by first | (simp only [layz]; rfl) | rfl) (vj : ∀ w, S w → (execOp (a.put oi.dst xi).eval oj).run P w = .ok (.value xj) w := by (intro w hSw; (try simp only [layz]); (try dsimp only at hSw); go_simp; first | done | with_reducible rfl)) (hk : ops[k]? = some ok := by exact opN rfl) (bk : (Region.noSelect ops && (Region.free .any ops ((listed.setIfInBounds i true).setIfInBounds j true) k && (Region.ready .any ops ((listed.setIfInBounds i true).setIfInBounds j true)).contains k)) = true := by kernel_rfl) (wk : Region.wanted ok (yielded ops ((a.put oi.dst xi).put oj.dst xj).tmps) = true := by first | (simp only [layz]; rfl) | rfl) (vk : ∀ w, S w → (execOp ((a.put oi.dst xi).put oj.dst xj).eval ok).run P w = .ok (.value xk) w := by (intro w hSw; (try simp only [layz]); (try dsimp only at hSw); go_simp; first | done | with_reducible rfl)) (hl : ops[l]? = some ol := by exact opN rfl) (bl : (Region.noSelect ops && (Region.free .any ops (((listed.setIfInBounds i true).setIfInBounds j true).setIfInBounds k true) l && (Region.ready .any ops (((listed.setIfInBounds i true).setIfInBounds j true).setIfInBounds k true)).contains l)) = true := by kernel_rfl) (wl : Region.wanted ol (yielded ops (((a.put oi.dst xi).put oj.dst xj).put ok.dst xk).tmps) = true := by first | (simp only [layz]; rfl) | rfl) (vl : ∀ w, S w → (execOp (((a.put oi.dst xi).put oj.dst xj).put ok.dst xk).eval ol).run P w = .ok (.value xl) w := by (intro w hSw; (try simp only [layz]); (try dsimp only at hSw); go_simp; first | done | with_reducible rfl)) (hS : S w := by assumption) : wpAnyH P .any ops (NoPanic Q) S (fuel + 1 + 1 + 1 + 1) listed a w := (tk i hi bi wi vi hS (tk j hj bj wj vj hS (tk k hk bk wk vk hS (tk l hl bl wl vl hS h))))
end
theorem step_append_row {P : Program} {w : World} {ops : Array Oper} {o : Oper} {a : Act} {K : Act → World → Prop} {Q : Exit → Act → World → Prop} {E : Prop} (hgd : o.guard = none) (s xo : Operand) (t : TypeId)
  (ho : o.op = .call { callee := .builtin .append, args := #[s, xo], argTypes := #[t, t] }) {e : Ty} (F : Flat e) (base : Nat) (te : TypeId) {z : Value} {by_ : Nat}
  (hinfo : (P.info? te).map (fun i => (i.zero, i.size, i.bytes)) = some (some z, 1, by_)) (hz1 : z.cells.size = 1) (ht : P.underlying t = some (.slice te))
  (v u : Value) (x y : List e.D) (hs : a.eval s = v) (hx : a.eval xo = u) (hown : Row F w base te v x) (hy : (Ty.sl e).rd w [u] y) (hbytes : (x.length + y.length) * by_ ≤ 140737488355328) (hlen : x.length + y.length ≤ maxLen) (hbase : base ≤ w.heap.size)
  (h : ∀ v' w', Row F w' base te v' (x ++ y) → w.grownBy w' v.ownBlock → K (a.put o.dst v') w') :
  if Region.wanted o (yielded ops a.tmps) = true then Oper.wp P o a w K Q else E := by
 have hw : Region.wanted o (yielded ops a.tmps) = true := by simp [Region.wanted, hgd]
 rw [if_pos hw]
 obtain ⟨v', w', hr, h2, h3⟩ := run_append_row (P := P) F base t o.type te hinfo hz1 ht v u x y hown hy hbytes hlen hbase
 unfold Oper.wp execOp
 simp only [ho, resolve, invoke, builtin, Sem.run_bind, Sem.run_pure, Result.andThen_ok, List.map_toArray, List.map_cons, List.map_nil, hs, hx, hr]
 exact h v' w' h2 h3
structure Kept (fp : List Nat) (w w' : World) : Prop where
 os : w'.os = w.os
 tape : w'.tape = w.tape
 output : w'.output = w.output
 size : w.heap.size ≤ w'.heap.size
 block : ∀ k, k < w.heap.size → k ∉ fp → w'.heap[k]? = w.heap[k]?
theorem Kept.refl (fp : List Nat) (w : World) : Kept fp w w := ⟨rfl, rfl, rfl, Nat.le_refl _, fun _ _ _ => rfl⟩
theorem Kept.trans {fp : List Nat} {a b c : World} (h : Kept fp a b) (k : Kept fp b c) : Kept fp a c :=
 ⟨k.os.trans h.os, k.tape.trans h.tape, k.output.trans h.output, Nat.le_trans h.size k.size, fun i hi hn => (k.block i (Nat.lt_of_lt_of_le hi h.size) hn).trans (h.block i hi hn)⟩
theorem Kept.mono {fp gp : List Nat} {a b : World} (h : Kept fp a b) (hs : ∀ x ∈ fp, x ∈ gp) : Kept gp a b :=
 ⟨h.os, h.tape, h.output, h.size, fun i hi hn => h.block i hi (fun hm => hn (hs i hm))⟩
theorem Kept.of_below {fp : List Nat} {a b : World} (h : Below a.heap.size a b) : Kept fp a b := ⟨h.os, h.tape, h.output, h.size, fun i hi _ => h.block i hi⟩
theorem Kept.below {fp : List Nat} {a b : World} {B : Nat} (h : Kept fp a b) (hB : B ≤ a.heap.size) (hf : ∀ x ∈ fp, B ≤ x) : Below B a b :=
 ⟨h.os, h.tape, h.output, h.size, fun i hi => h.block i b_29 (fun hm => by have := hf i hm; omega)⟩
theorem Kept.set {fp : List Nat} {a b : World} (h : Kept fp a b) {p : Addr} (hp : p.block ∈ fp) (u : Value) : Kept fp a (b.setCell p u) :=
 ⟨h.os, h.tape, h.output, by simpa [World.setCell] using h.size, fun i hi hn => (Below.heap_setCell _ _ _ _ (fun e => hn (by rw [e]; exact hp))).trans (h.block i hi hn)⟩
theorem Kept.drewN {fp : List Nat} {a b : World} (h : Kept fp a b) (n : Nat) : Kept fp a (b.drewN n) := ⟨h.os, h.tape, h.output, h.size, h.block⟩
theorem Kept.drew {fp : List Nat} {a b : World} (h : Kept fp a b) : Kept fp a b.drew := ⟨h.os, h.tape, h.output, h.size, h.block⟩
theorem Kept.step {fp : List Nat} {a b c : World} (h : Kept fp a b) (k : Below b.heap.size b c) : Kept fp a c := h.trans (Kept.of_below k)
def digLoop : Nat → Int → List UInt8 → List UInt8
 | 0, _, out => out
 | f + 1, k, out => if k ≤ 0 then out else digLoop f (k / 10) (UInt8.ofNat (48 + k % 10).toNat :: out)
def mkText (k : Int) : List UInt8 := if k ≤ 0 then [109, 48] else 109 :: digLoop 20 k []
def DigInv (f : Nat) (kk : Int) (out : List UInt8) (k : Int) : Prop := digLoop 20 k [] = digLoop f kk out ∧ kk < 10 ^ f
theorem DigInv.done {f : Nat} {kk : Int} {out : List UInt8} {k : Int} (h : DigInv f kk out k) (hk : kk ≤ 0) : digLoop 20 k [] = out := by
 rw [h.1]
 cases f with
 | zero => rfl
 | succ f => rw [digLoop, if_pos hk]
theorem DigInv.step {f : Nat} {kk : Int} {out : List UInt8} {k : Int} (h : DigInv f kk out k) (hk : 0 < kk) : ∃ g, f = g + 1 ∧ DigInv g (kk / 10) (UInt8.ofNat (48 + kk % 10).toNat :: out) k := by
 cases f with
 | zero => have := h.2; simp at this; omega
 | succ g =>
  refine ⟨g, rfl, by rw [h.1, digLoop, if_neg b_29], ?_⟩
  have := h.2
  rw [Int.pow_succ] at this
  omega
def Ty.cnt : (t : Ty) → t.D → Nat
 | .int, _ => 1
 | .byte, _ => 1
 | .bool, _ => 0
 | .str, _ => 1
 | .sl e, x => (List.map (fun d => e.cnt d) x).sum
 | .pr a b, x => a.cnt x.1 + b.cnt x.2
def mkSl {α : Type} (f : α → Int → α) (c : α → Nat) : List α → Int → List α
 | [], _ => []
 | a :: l, k => f a k :: mkSl f c l (k + c a)
def Ty.mk : (t : Ty) → t.D → Int → t.D
 | .int, _, k => k
 | .byte, _, k => UInt8.ofNat (k % 256).toNat
 | .bool, b, _ => b
 | .str, _, k => mkText k
 | .sl e, x, k => mkSl (fun d k => e.mk d k) (fun d => e.cnt d) x k
 | .pr a b, x, k => (a.mk x.1 k, b.mk x.2 (k + a.cnt x.1))
def Ty.k0 : Ty → Nat
 | .int => 1 | .byte => 1 | .bool => 0 | .str => 1
 | .sl _ => 0
 | .pr a b => a.k0 + b.k0
def Ty.wt : Ty → Nat
 | .sl e => e.k0 + e.wt
 | .pr a b => a.wt + b.wt
 | _ => 0
theorem length_mkSl {α : Type} (f : α → Int → α) (c : α → Nat) : ∀ (l : List α) (k : Int), (mkSl f c l k).length = l.length
 | [], _ => rfl
 | a :: l, k => by rw [mkSl, List.length_cons, length_mkSl f c l, List.length_cons]
def mkTo {α : Type} (f : α → Int → α) (c : α → Nat) (l : List α) (k : Int) (j : Nat) : List α := (mkSl f c l k).take j ++ l.drop j
theorem mkTo_zero {α : Type} (f : α → Int → α) (c : α → Nat) (l : List α) (k : Int) : mkTo f c l k 0 = l := by simp [mkTo]
theorem mkTo_all {α : Type} (f : α → Int → α) (c : α → Nat) (l : List α) (k : Int) : mkTo f c l k l.length = mkSl f c l k := by
 rw [mkTo, List.drop_length, List.append_nil, List.take_of_length_le (by rw [length_mkSl]; exact Nat.le_refl _)]
theorem Ty.sz_pos : ∀ t : Ty, 0 < t.sz
 | .int => Nat.one_pos
 | .byte => Nat.one_pos
 | .bool => Nat.one_pos
 | .str => Nat.one_pos
 | .sl _ => Nat.one_pos
 | .pr a b => Nat.lt_of_lt_of_le (Ty.sz_pos a) (Nat.le_add_right _ _)
theorem Ty.ow_lt {w : World} : ∀ {t : Ty} {cs : List Value} {x : t.D} {fp : List Nat}, t.ow w cs x fp → ∀ b ∈ fp, b < w.heap.size
 | .int, _, _, _, h, b, hb => by rw [h.2] at hb; cases hb
 | .byte, _, _, _, h, b, hb => by rw [h.2] at hb; cases hb
 | .bool, _, _, _, h, b, hb => by rw [h.2] at hb; cases hb
 | .str, _, _, _, h, b, hb => by rw [h.2] at hb; cases hb
 | .sl e, _, x, _, ⟨A, c, h1, h2, h3, h4, h5⟩, b, hb => by
  rcases h5 with h5 | ⟨h0, g, o, fs, hA, hfp, hc⟩
  ·rw [h5.2] at hb; cases hb
  ·rw [hfp] at hb
   rcases List.mem_cons.1 hb with rfl | hb
   ·obtain ⟨ds, hl, hcell, _⟩ := hc 0 h0
    have hz := Ty.sz_pos e
    have hv : w.cell? ⟨b, o + 0 * e.sz + 0, none⟩ = some (ds[0]'(by omega)) := by rw [(hcell 0 hz).1]; exact List.getElem?_eq_getElem b_29
    exact World.block_lt_of_cell? w _ hv
   ·obtain ⟨i, hi, hb⟩ := List.mem_flatMap.1 hb
    obtain ⟨ds, hl, hcell, hr⟩ := hc i (List.mem_range.1 hi)
    exact Ty.ow_lt hr b hb
 | .pr _ _, _, _, _, ⟨c1, c2, f1, f2, h, hf, h1, h2⟩, b, hb => by
  rw [hf] at hb
  rcases List.mem_append.1 hb with hb | hb
  ·exact Ty.ow_lt h1 b hb
  ·exact Ty.ow_lt h2 b hb
theorem Ty.ow_bel {w w' : World} (hb : Below w.heap.size w w') {t : Ty} {cs : List Value} {x : t.D} {fp : List Nat} (h : t.ow w cs x fp) : t.ow w' cs x fp :=
 Ty.ow_keep (fun b hb' => hb.block b (Ty.ow_lt h b hb')) h
def RetMk (w : World) (t : Ty) (cs : List Value) (x : t.D) (fp : List Nat) (k : Int) (e : Ending) (w' : World) : Prop := e = .returned (.int .i64 k) ∧ t.ow w' cs x fp ∧ Kept fp w w'
def MkInv (e : Ty) (A : Option Addr) (c : Nat) (x : List e.D) (fp : List Nat) (k : Int) (w : World) (j : Nat) (wr : World) : Prop :=
 (Ty.sl e).ow wr [.slice A x.length c] (mkTo (fun d k => e.mk d k) (fun d => e.cnt d) x k j) fp ∧ Kept fp w wr
theorem MkInv.zero {e : Ty} {A : Option Addr} {c : Nat} {x : List e.D} {fp : List Nat} {k : Int} {w : World} (h : (Ty.sl e).ow w [.slice A x.length c] x fp) : MkInv e A c x fp k w 0 w := by
 refine ⟨?_, Kept.refl _ _⟩
 rw [mkTo_zero]
 exact h
theorem MkInv.done {e : Ty} {A : Option Addr} {c : Nat} {x : List e.D} {fp : List Nat} {k kk : Int} {w wr : World} (h : MkInv e A c x fp k w x.length wr) :
  RetMk w (.sl e) [.slice A x.length c] (Ty.mk (.sl e) x k) fp kk (.returned (.int .i64 kk)) wr := by
 refine ⟨rfl, ?_, h.2⟩
 have := h.1
 rw [mkTo_all] at this
 exact this
def Ty.flat : Ty → Bool
 | .sl _ => false
 | .pr a b => a.flat && b.flat
 | _ => true
theorem Ty.rd_ow_flat {w : World} : ∀ {t : Ty} {cs : List Value} {x : t.D}, t.flat = true → t.rd w cs x → t.ow w cs x []
 | .int, _, _, _, h => ⟨h, rfl⟩
 | .byte, _, _, _, h => ⟨h, rfl⟩
 | .bool, _, _, _, h => ⟨h, rfl⟩
 | .str, _, _, _, h => ⟨h, rfl⟩
 | .sl _, _, _, hf, _ => by simp [Ty.flat] at hf
 | .pr a b, _, _, hf, ⟨c1, c2, h, h1, h2⟩ => by
  simp only [Ty.flat, Bool.and_eq_true] at hf
  exact ⟨c1, c2, [], [], h, rfl, Ty.rd_ow_flat hf.1 h1, Ty.rd_ow_flat hf.2 h2⟩
theorem fmr_congr {α : Type} {f g : Nat → List α} : ∀ {n : Nat}, (∀ i, i < n → f i = g i) → (List.range n).flatMap f = (List.range n).flatMap g
 | 0, _ => rfl
 | n + 1, h => by
  rw [List.range_succ, List.flatMap_append, List.flatMap_append, fmr_congr (n := n) (fun i hi => h i b_29)]
  simp [h n b_29]
theorem fmr_len {α : Type} (css : Nat → List α) (sz : Nat) : ∀ n, (∀ i, i < n → (css i).length = sz) → ((List.range n).flatMap css).length = n * sz
 | 0, _ => by simp
 | n + 1, h => by
  rw [List.range_succ, List.flatMap_append, List.length_append, fmr_len css sz n (fun i hi => h i b_29), Nat.succ_mul]
  simp [h n b_29]
theorem fmr_get {α : Type} (css : Nat → List α) (sz : Nat) : ∀ n, (∀ i, i < n → (css i).length = sz) → ∀ i j, i < n → j < sz → ((List.range n).flatMap css)[i * sz + j]? = (css i)[j]?
 | 0, _, _, _, h, _ => by omega
 | n + 1, h, i, j, hi, hj => by
  have hl := fmr_len css sz n (fun i hi => h i b_29)
  rw [List.range_succ, List.flatMap_append]
  by_cases hin : i < n
  ·have h2 : (i + 1) * sz ≤ n * sz := Nat.mul_le_mul_right _ b_29
   rw [Nat.succ_mul] at h2
   rw [List.getElem?_append_left (by rw [hl]; omega)]
   exact fmr_get css sz n (fun i hi => h i b_29) i j hin hj
  ·obtain rfl : i = n := by omega
   rw [List.getElem?_append_right (by rw [hl]; omega), hl, Nat.add_sub_cancel_left]
   simp
def glue {α : Type} (n : Nat) (f g : Nat → α) : Nat → α := fun i => if i < n then f i else g (i - n)
theorem glue_lt {α : Type} {n : Nat} {f g : Nat → α} {i : Nat} (h : i < n) : glue n f g i = f i := if_pos h
theorem glue_ge {α : Type} {n : Nat} {f g : Nat → α} (i : Nat) : glue n f g (n + i) = g i := by
 unfold glue; rw [if_neg b_29, Nat.add_sub_cancel_left]
theorem fmr_glue {α : Type} (n : Nat) (f g : Nat → List α) : ∀ m, (List.range (n + m)).flatMap (glue n f g) = (List.range n).flatMap f ++ (List.range m).flatMap g
 | 0 => by
  rw [Nat.add_zero, fmr_congr (fun i hi => glue_lt hi)]; simp
 | m + 1 => by
  rw [← Nat.add_assoc, List.range_succ, List.flatMap_append, fmr_glue n f g m, List.range_succ (n := m), List.flatMap_append, List.append_assoc]
  simp [glue_ge]
def Src (e : Ty) (w : World) (lo : Nat) (u : Value) (y : List e.D) : Prop :=
 ∃ A c fs, u = .slice A y.length c ∧ FrI lo w.heap.size ((List.range y.length).flatMap fs) ∧
  (0 < y.length → ∃ b o, A = some ⟨b, o, none⟩ ∧ ∀ i (h : i < y.length), ∃ ds : List Value, ds.length = e.sz ∧ (∀ j, j < e.sz → w.cell? ⟨b, o + i * e.sz + j, none⟩ = ds[j]?) ∧ e.ow w ds y[i] (fs i))
theorem Src.flat {e : Ty} {w : World} {u : Value} {y : List e.D} (hf : e.flat = true) (h : (Ty.sl e).rd w [u] y) (lo : Nat) : Src e w lo u y := by
 obtain ⟨A, c, hu, _, _, _, hc⟩ := h
 injection hu with hu _
 refine ⟨A, c, fun _ => [], hu, ?_, fun h0 => ?_⟩
 ·rw [List.flatMap_eq_nil_iff.2 (fun _ _ => rfl)]; exact FrI.nil _ _
 ·obtain ⟨b, o, hA, hel⟩ := hc h0
  exact ⟨b, o, hA, fun i hi => by obtain ⟨ds, h1, h2, h3⟩ := hel i hi; exact ⟨ds, h1, h2, Ty.rd_ow_flat hf h3⟩⟩
theorem Src.one {e : Ty} {w : World} {lo b o c : Nat} {ds : List Value} {d : e.D} {f : List Nat} (hc : ∀ j, j < e.sz → w.cell? ⟨b, o + j, none⟩ = ds[j]?) (how : e.ow w ds d f) (hf : FrI lo w.heap.size f) :
  Src e w lo (.slice (some ⟨b, o, none⟩) 1 c) [d] := by
 refine ⟨_, c, fun _ => f, rfl, ?_, fun _ => ⟨b, o, rfl, fun i hi => ?_⟩⟩
 ·simpa using hf
 ·have h0 : i = 0 := by simpa using hi
  subst h0
  exact ⟨ds, Ty.ow_len how, fun j hj => by rw [Nat.zero_mul, Nat.add_zero]; exact hc j hj, how⟩
theorem Src.drew {e : Ty} {w : World} {lo : Nat} {u : Value} {y : List e.D} (h : Src e w lo u y) : Src e w.drew lo u y := by
 obtain ⟨A, c, fs, h1, h2, h3⟩ := h
 refine ⟨A, c, fs, h1, h2, fun h0 => ?_⟩
 obtain ⟨b, o, h4, h5⟩ := h3 h0
 exact ⟨b, o, h4, fun i hi => by obtain ⟨ds, g1, g2, g3⟩ := h5 i hi; exact ⟨ds, g1, g2, Ty.ow_bel (bel_drew (Below.refl _ _)) g3⟩⟩
def DRow (e : Ty) (w : World) (base : Nat) (te : TypeId) (v : Value) (x : List e.D) : Prop :=
 ∃ (css : Nat → List Value) (fs : Nat → List Nat), w.ownsRow base te e.sz v x.length ((List.range x.length).flatMap css) ∧
  (∀ i (h : i < x.length), (css i).length = e.sz ∧ e.ow w (css i) x[i] (fs i)) ∧
  FrI base w.heap.size ((List.range x.length).flatMap fs) ∧ (∀ g, v.ownBlock = some g → g ∉ (List.range x.length).flatMap fs)
theorem DRow.nil (e : Ty) (w : World) (base : Nat) (te : TypeId) : DRow e w base te (.slice none 0 0) [] :=
 ⟨fun _ => [], fun _ => [], World.ownsRow_nil w base te e.sz, fun i h => absurd h b_30, FrI.nil _ _, fun g h => by cases h⟩
theorem DRow.lit0 (e : Ty) (w : World) (te : TypeId) {base : Nat} (hb : base ≤ w.heap.size) : DRow e (w.alloc (.cells #[] te)) base te (.slice (some ⟨w.heap.size, 0, none⟩) 0 0) [] :=
 ⟨fun _ => [], fun _ => [], World.ownsRow_lit w #[] 0 hb (by unfold maxLen; omega) b_30, fun i h => absurd h b_30, FrI.nil _ _, fun g h => by simp⟩
section
variable {e : Ty} {w w' : World} {base : Nat} {te : TypeId} {v : Value} {x : List e.D}
theorem DRow.block (h : DRow e w base te v x) : ∀ g, v.ownBlock = some g → base ≤ g ∧ g < w.heap.size := by
 obtain ⟨css, fs, h, _⟩ := h
 exact h.lt
theorem DRow.below (h : DRow e w base te v x) (hb : Below w.heap.size w w') : DRow e w' base te v x := by
 obtain ⟨css, fs, h1, h2, h3, h4⟩ := h
 refine ⟨css, fs, ⟨h1.1, ?_⟩, fun i hi => ⟨(h2 i hi).1, Ty.ow_bel hb (h2 i hi).2⟩, h3.mono (Nat.le_refl _) hb.size, h4⟩
 rcases h1.2 with hn | ⟨g, cap, cur, rfl, hbg, hgg, rest⟩
 ·exact .inl hn
 ·exact .inr ⟨g, cap, cur, rfl, hbg, (hb.block g (Blk.lt (t := te) (cs := cur) hgg)).trans hgg, rest⟩
theorem DRow.mono {base' : Nat} (h : DRow e w base te v x) (hb : base' ≤ base) : DRow e w base' te v x := by
 obtain ⟨css, fs, h1, h2, h3, h4⟩ := h
 refine ⟨css, fs, ⟨h1.1, ?_⟩, h2, h3.mono hb (Nat.le_refl _), h4⟩
 rcases h1.2 with hn | ⟨g, cap, cur, rfl, hbg, hgg, rest⟩
 ·exact .inl hn
 ·exact .inr ⟨g, cap, cur, rfl, Nat.le_trans hb hbg, hgg, rest⟩
theorem DRow.le (h : DRow e w base te v x) : x.length ≤ maxLen := by
 obtain ⟨css, fs, h, _⟩ := h
 rcases h.2 with ⟨_, hn⟩ | ⟨g, cap, cur, _, _, _, h1, h2, _⟩
 ·rw [hn]; exact Nat.zero_le _
 ·exact Nat.le_trans h1 h2
theorem DRow.own (h : DRow e w base te v x) : ∃ A c fp, v = .slice A x.length c ∧ (Ty.sl e).ow w [v] x fp ∧ FrI base w.heap.size fp := by
 have hl := h.le
 unfold maxLen at hl
 obtain ⟨css, fs, h1, h2, h3, h4⟩ := h
 rcases h1.2 with ⟨rfl, hn⟩ | ⟨g, cap, cur, rfl, hbg, hg, hnc, hcm, hcs, htake⟩
 ·have hx : x = [] := List.eq_nil_of_length_eq_zero hn
  subst hx
  exact ⟨none, 0, [], rfl, ⟨none, 0, rfl, by simp, ⟨by unfold maxLen; omega, fun _ => rfl⟩, by simp, .inl ⟨rfl, rfl⟩⟩, FrI.nil _ _⟩
 ·have hlt : g < w.heap.size := Blk.lt (t := te) (cs := cur) hg
  by_cases h0 : x.length = 0
  ·exact ⟨_, _, [], rfl, ⟨_, _, rfl, hnc, ⟨hcm, fun h => by cases h⟩, by omega, .inl ⟨h0, rfl⟩⟩, FrI.nil _ _⟩
  ·have hg4 := h4 g rfl
   refine ⟨_, _, g :: (List.range x.length).flatMap fs, rfl, ⟨_, _, rfl, hnc, ⟨hcm, fun h => by cases h⟩, by omega, .inr ⟨by show 0 < x.length; omega, g, 0, fs, rfl, rfl, fun i hi => ?_⟩⟩, ?_⟩
   ·refine ⟨css i, (h2 i hi).1, fun j hj => ⟨?_, ?_⟩, (h2 i hi).2⟩
    ·have h5 : (i + 1) * e.sz ≤ x.length * e.sz := Nat.mul_le_mul_right _ hi
     rw [Nat.succ_mul] at h5
     rw [Nat.zero_add, h1.cellAt (i * e.sz + j) b_29]
     exact fmr_get css e.sz x.length (fun i hi => (h2 i hi).1) i j hi hj
    ·exact Blk.frozen (t := te) (cs := cur) hg _
   ·refine ⟨List.nodup_cons.2 ⟨hg4, h3.1⟩, fun b hb' => ?_⟩
    rcases List.mem_cons.1 hb' with rfl | hb'
    ·exact ⟨hbg, hlt⟩
    ·exact h3.2 b hb'
theorem DRow.rd (h : DRow e w base te v x) : (Ty.sl e).rd w [v] x := by
 obtain ⟨A, c, fp, _, how, _⟩ := h.own
 exact Ty.ow_rd how
theorem DRow.form (h : DRow e w base te v x) : ∃ A c, v = .slice A x.length c := by
 obtain ⟨A, c, fp, hv, _⟩ := h.own
 exact ⟨A, c, hv⟩
end
def RetDRow (e : Ty) (w : World) (te : TypeId) (x : List e.D) (r : Ending) (w' : World) : Prop :=
 ∃ v, r = .returned v ∧ DRow e w' w.heap.size te v x ∧ Below w.heap.size w w'
theorem RetDRow.sl {e : Ty} {w : World} {te : TypeId} {x : List e.D} {r : Ending} {w' : World} (h : RetDRow e w te x r w') : RetSl w e x r w' := by
 obtain ⟨v, rfl, hr, hb⟩ := h
 obtain ⟨A, c, fp, rfl, how, hfr⟩ := hr.own
 exact ⟨A, c, fp, rfl, how, hfr, hb⟩
def dead : Obj := .cells #[] 0 (0, 0)
def hide (B : Nat) (w : World) : World := { w with heap := w.heap.setIfInBounds B dead }
theorem hide_size (B : Nat) (w : World) : (hide B w).heap.size = w.heap.size := by show (w.heap.setIfInBounds B dead).size = _; simp
theorem hide_other {B g : Nat} (h : g ≠ B) (w : World) : (hide B w).heap[g]? = w.heap[g]? := by
 show (w.heap.setIfInBounds B dead)[g]? = _
 rw [Array.getElem?_setIfInBounds_ne (Ne.symm h)]
theorem hide_same {B : Nat} {w : World} (h : B < w.heap.size) : (hide B w).heap[B]? = some dead := by
 show (w.heap.setIfInBounds B dead)[B]? = _
 rw [Array.getElem?_setIfInBounds_self_of_lt h]
theorem hide_cell {B : Nat} {w : World} {p : Addr} {v : Value} (h : (hide B w).cell? p = some v) : w.cell? p = some v ∧ p.block ≠ B := by
 have hne : p.block ≠ B := by
  intro e
  have hlt : p.block < (hide B w).heap.size := World.block_lt_of_cell? _ _ h
  rw [hide_size] at hlt
  have h2 : (hide B w).heap[p.block]? = some dead := by rw [e]; exact hide_same b_29
  unfold World.cell? at h
  rw [h2] at h
  simp [dead] at h
 refine ⟨?_, hne⟩
 have : (hide B w).cell? p = w.cell? p := World.cell?_of_block (w := w) (a := p) (hide_other hne w)
 rw [← this]; exact h
theorem rd_hide {B : Nat} {w : World} : ∀ {t : Ty} {cs : List Value} {x : t.D}, t.rd (hide B w) cs x → t.rd w cs x
 | .int, _, _, h => h
 | .byte, _, _, h => h
 | .bool, _, _, h => h
 | .str, _, _, h => h
 | .sl e, _, _, ⟨A, c, h1, h2, h3, h4, h5⟩ => ⟨A, c, h1, h2, h3, h4, fun hn => by
   obtain ⟨b, o, hA, hc⟩ := h5 hn
   refine ⟨b, o, hA, fun i hi => ?_⟩
   obtain ⟨ds, hl, hcell, hr⟩ := hc i hi
   refine ⟨ds, hl, fun j hj => ?_, rd_hide hr⟩
   have hv : (hide B w).cell? ⟨b, o + i * e.sz + j, none⟩ = some (ds[j]'(by omega)) := by rw [hcell j hj]; exact List.getElem?_eq_getElem b_29
   rw [(hide_cell hv).1]
   exact (List.getElem?_eq_getElem b_29).symm⟩
 | .pr _ _, _, _, ⟨c1, c2, h, h1, h2⟩ => ⟨c1, c2, h, rd_hide h1, rd_hide h2⟩
abbrev Dr (B : Nat) (w w' : World) : Prop := Below w.heap.size (hide B w) (hide B w')
theorem Dr.refl (B : Nat) (w : World) : Dr B w w := Below.refl _ _
theorem Dr.size {B : Nat} {w w' : World} (h : Dr B w w') : w.heap.size ≤ w'.heap.size := by
 have := Below.size h; rw [hide_size, hide_size] at this; exact this
theorem Dr.of {w w' : World} (h : Below w.heap.size w w') (B : Nat) : Dr B w w' := by
 refine ⟨h.os, h.tape, h.output, by rw [hide_size, hide_size]; exact h.size, fun k hk => ?_⟩
 by_cases e : k = B
 ·subst e
  rw [hide_same hk, hide_same (Nat.lt_of_lt_of_le hk h.size)]
 ·rw [hide_other e, hide_other e]; exact h.block k hk
theorem Dr.trans {B : Nat} {w w1 w2 : World} (h : Dr B w w1) (k : Dr B w1 w2) : Dr B w w2 :=
 ⟨k.os.trans h.os, k.tape.trans h.tape, k.output.trans h.output, Nat.le_trans (Below.size h) (Below.size k), fun g hg => (k.block g (Nat.lt_of_lt_of_le hg h.size)).trans (h.block g hg)⟩
theorem Dr.then_ {B : Nat} {w w1 w2 : World} (h : Dr B w w1) (k : Below w1.heap.size w1 w2) : Dr B w w2 := h.trans (Dr.of k B)
theorem Dr.alloc {B : Nat} {w w1 : World} (h : Dr B w w1) (o : Obj) : Dr B w (w1.alloc o) := h.then_ (bel_alloc (Below.refl _ _) o)
theorem Dr.drewN {B : Nat} {w w1 : World} (h : Dr B w w1) (n : Nat) : Dr B w (w1.drewN n) := h.then_ (bel_drewN (Below.refl _ _) n)
theorem Dr.drew {B : Nat} {w w1 : World} (h : Dr B w w1) : Dr B w w1.drew := h.then_ (bel_drew (Below.refl _ _))
theorem ez {B : Nat} (u : World) {v w : World} (h : Dr B v w) (k : Dr B v w → Dr B u w := by first | exact id | exact fun h => (Dr.drew (Dr.refl _ _)).trans h) : Dr B u w ∧ u.heap.size ≤ w.heap.size := ⟨k h, (k h).size⟩
theorem drz {B : Nat} {w w' V : World} (X : Dr B w w') (h : Dr B w w' → Dr B w V := by first | exact id | exact Dr.drew) : Dr B w V := h X
theorem Dr.set {B : Nat} {w w1 : World} (h : Dr B w w1) {p : Addr} (hp : p.block = B ∨ w.heap.size ≤ p.block) (u : Value) : Dr B w (w1.setCell p u) := by
 refine ⟨h.os, h.tape, h.output, by have := Below.size h; rw [hide_size] at this ⊢; rw [hide_size, World.size_setCell]; rw [hide_size] at this; exact this, fun g hg => ?_⟩
 by_cases e : g = B
 ·subst e
  rw [hide_same (by rw [World.size_setCell]; exact Nat.lt_of_lt_of_le hg h.size), hide_same hg]
 ·rw [hide_other e, hide_other e, Below.heap_setCell w1 p u g (by rcases hp with hp | hp <;> omega)]
  have := h.block g hg
  rw [hide_other e, hide_other e] at this
  exact this
theorem Dr.block {B g : Nat} {w w' : World} (h : Dr B w w') (hg : g < w.heap.size) (hne : g ≠ B) : w'.heap[g]? = w.heap[g]? := by
 have := Below.block h g hg
 rw [hide_other hne, hide_other hne] at this
 exact this
theorem Dr.below {B n : Nat} {w w' : World} (h : Dr B w w') (hn : n ≤ B) (hs : n ≤ w.heap.size) : Below n w w' :=
 ⟨h.os, h.tape, h.output, h.size, fun k hk => h.block b_29 b_29⟩
theorem Dr.blk {B g : Nat} {w w' : World} {t : TypeId} {cs : Array Value} (h : Dr B w w') (hb : Blk w g t cs) (hne : g ≠ B) : Blk w' g t cs := (h.block hb.lt hne).trans hb
theorem Dr.rd {B : Nat} {w w' : World} (h : Dr B w w') {t : Ty} {cs : List Value} {x : t.D} (hr : t.rd (hide B w) cs x) : t.rd (hide B w') cs x :=
 Ty.rd_below (by rw [hide_size]; exact h) hr
theorem Dr.ow {B : Nat} {w w' : World} (h : Dr B w w') {t : Ty} {cs : List Value} {x : t.D} {fp : List Nat} (hr : t.ow w cs x fp) (hf : B ∉ fp) : t.ow w' cs x fp :=
 Ty.ow_keep (fun b hb => Dr.block h (Ty.ow_lt hr b hb) (fun e => by subst e; exact hf hb)) hr
theorem ow_hide {B : Nat} {w : World} {t : Ty} {cs : List Value} {x : t.D} {fp : List Nat} (hr : t.ow w cs x fp) (hf : B ∉ fp) : t.ow (hide B w) cs x fp :=
 Ty.ow_keep (fun b hb => hide_other (fun e => by subst e; exact hf hb) w) hr
theorem ow_hideF {B lo hi : Nat} {w : World} {t : Ty} {cs : List Value} {x : t.D} {fp : List Nat} (hr : t.ow w cs x fp) (hf : FrI lo hi fp) (hB : B < lo) : t.ow (hide B w) cs x fp :=
 ow_hide hr (fun e => by have := (hf.2 _ e).1; omega)
def Cur (tc : TypeId) (w : World) (B : Nat) : Prop :=
 ∃ w0 A c i h, ∃ b : List UInt8, w0.heap.size ≤ B ∧ Below w0.heap.size w0 w ∧ (Ty.sl .byte).rd w0 [.slice A b.length c] b ∧
  Blk w B tc #[.slice A b.length c, .int .i64 i, .int .i64 h] ∧ (0 ≤ i ∧ i ≤ b.length)
section
variable {tc : TypeId} {w w' : World} {B : Nat}
theorem Cur.lt (h : Cur tc w B) : B < w.heap.size := by
 obtain ⟨w0, A, c, i, h, b, _, _, _, hb, _⟩ := h
 exact hb.lt
theorem Cur.keep (h : Cur tc w B) (hb : w'.heap[B]? = w.heap[B]?) (hd : Below B w w') : Cur tc w' B := by
 obtain ⟨w0, A, c, i, h, b, h0, h1, h2, hk, h3⟩ := h
 exact ⟨w0, A, c, i, h, b, h0, h1.trans (hd.mono h0), h2, hb.trans hk, h3⟩
theorem Cur.below (h : Cur tc w B) (hb : Below w.heap.size w w') : Cur tc w' B := h.keep (hb.block B h.lt) (hb.mono (Nat.le_of_lt h.lt))
theorem Cur.alloc (h : Cur tc w B) (o : Obj) : Cur tc (w.alloc o) B := h.below (bel_alloc (Below.refl _ _) o)
theorem Cur.drew (h : Cur tc w B) : Cur tc w.drew B := h.below (bel_drew (Below.refl _ _))
theorem cuz {t : TypeId} {b : Nat} {u V : World} (X : Cur t u b) (h : Cur t u b → Cur t V b := by first | exact id | exact Cur.drew) : Cur t V b := h X
theorem Cur.drewN (h : Cur tc w B) (n : Nat) : Cur tc (w.drewN n) B := h.below (bel_drewN (Below.refl _ _) n)
theorem Cur.far (h : Cur tc w B) {p : Addr} (hp : B < p.block) (u : Value) : Cur tc (w.setCell p u) B :=
 h.keep (Below.heap_setCell w p u B b_29) ((Below.refl B w).setCell b_29 u)
theorem Cur.grown {row : Option Nat} (h : Cur tc w B) (hg : w.grownBy w' row) (hr : ∀ g, row = some g → B < g) : Cur tc w' B :=
 h.keep (hg.block B h.lt (fun e => by have := hr B e.symm; omega)) (bel_grown (Below.refl _ _) (Nat.le_of_lt h.lt) hg (fun g e => Nat.le_of_lt (hr g e)))
end
def RetDr (tc : TypeId) (B : Nat) (w : World) (Q : Ending → World → Prop) (e : Ending) (w' : World) : Prop := Dr B w w' ∧ Cur tc w' B ∧ Q e w'
def DrI (lo hi : Int) (e : Ending) (w' : World) : Prop := ∃ x : Int, e = .returned (.int .i64 x) ∧ lo ≤ x ∧ x ≤ hi
theorem info_str : (Try.prog.info? 9).map (fun i => (i.zero, i.size, i.bytes)) = some (some (vS []), 1, 16) := by kernel_rfl
theorem info_Byte : (Try.prog.info? 5).map (fun i => (i.zero, i.size, i.bytes)) = some (some (.int .u8 0), 1, 1) := by kernel_rfl
theorem i64_and255 (n : Int) : bits .and .i64 n 255 = n % 256 := by
 have h127 : (BitVec.ofInt 64 255).toNat = 2 ^ 8 - 1 := by decide
 have key : (BitVec.ofInt 64 n &&& BitVec.ofInt 64 255).toNat = (n % ((2 ^ 64 : Nat) : Int)).toNat % 2 ^ 8 := by
  rw [BitVec.toNat_and, BitVec.toNat_ofInt, h127, Nat.and_two_pow_sub_one_eq_mod]
 show IntKind.i64.wrap ((BitVec.ofInt 64 n &&& BitVec.ofInt 64 255).toNat : Nat) = n % 256
 rw [key, IntKind.wrap_i64]
 omega
abbrev CurT (w : World) (B : Nat) : Prop := Cur 154 w B
abbrev RetDT (B : Nat) (w : World) (Q : Ending → World → Prop) (e : Ending) (w' : World) : Prop := RetDr 154 B w Q e w'
abbrev pB (B : Nat) : Value := .pointer (some ⟨B, 0, none⟩)
set_option maxHeartbeats 1000000 in
theorem C_spec_l1New (w : World) (v : Value) (b : List UInt8) (h : (Ty.sl .byte).rd w [v] b) :
  Calls Try.prog 66 #[v] w (fun e w' => e = .returned (pB w.heap.size) ∧ Below w.heap.size w w' ∧ CurT w' w.heap.size) := by
 obtain ⟨A, c, rfl, hc, hm, hn⟩ := Ty.rd_sl h
 go_enter Try.func66, Try.ntmps66
 go_wp2
 go_loopw [3, 4] (fun hh i wr => ∃ (k : Nat) (x : Int), k ≤ b.length ∧ i = .int .i64 k ∧ hh = .int .i64 x ∧ wr = w) (fun _ i _ => b.length - (intOf i).toNat)
 case atStart => exact ⟨0, _, by omega, by first | rfl | simp, rfl, rfl⟩
 case round =>
  obtain ⟨k, x, hk, rfl, rfl, hw⟩ := hrel
  obtain rfl : w = wr := hw.symm
  by_cases hlt : k < b.length
  ·obtain ⟨bb, o, ds, rfl, hl, hcell, hrd⟩ := Ty.rd_at h hlt
   have hrd : ds = [.int .u8 (b[k].toNat : Int)] := hrd
   subst hrd
   have e0 : w.cell? ⟨bb, o + k, none⟩ = some (.int .u8 (b[k].toNat : Int)) := by simpa [Ty.sz] using hcell 0 b_28
   clear hcell hl
   by_cases h4 : (k : Int) < 4000
   ·go_wp2
    go_roundw
    case rel => exact ⟨k + 1, _, by omega, by go_num, rfl, by first | rfl | trivial⟩
    case measure => simp [intOf]; omega
   ·go_wp2
    go_ret
    exact ⟨rfl, b_5, w, _, _, _, _, b, Nat.le_refl _, b_5, h, Blk.new w _ _, ⟨by omega, by omega⟩⟩
  ·go_wp2
   go_ret
   exact ⟨rfl, b_5, w, _, _, _, _, b, Nat.le_refl _, b_5, h, Blk.new w _ _, ⟨by omega, by omega⟩⟩
set_option maxHeartbeats 2000000 in
theorem C_spec_l1Byte (w : World) (B : Nat) (hc : CurT w B) :
  Calls Try.prog 141 #[pB B] w (RetDT B w (DrI 0 255)) := by
 have hB := hc.lt
 obtain ⟨w0, A, c, i, hh, b, hb0, hb1, hrd, hk, hi0, hi1⟩ := hc
 obtain ⟨_, _, _, _, _, hbn⟩ := Ty.rd_sl hrd
 obtain ⟨k, rfl⟩ : ∃ k : Nat, i = k := ⟨i.toNat, by omega⟩
 have k0 : w.cell? ⟨B, 0, none⟩ = some (.slice A b.length c) := hk.cell 0
 have k1 : w.cell? ⟨B, 1, none⟩ = some (.int .i64 k) := hk.cell 1
 have k2 : w.cell? ⟨B, 2, none⟩ = some (.int .i64 hh) := hk.cell 2
 have f0 : w.frozen? ⟨B, 0, none⟩ = false := hk.frozen 0
 have f1 : w.frozen? ⟨B, 1, none⟩ = false := hk.frozen 1
 have f2 : w.frozen? ⟨B, 2, none⟩ = false := hk.frozen 2
 by_cases hlt : k < b.length
 ·obtain ⟨bb, o, ds, rfl, hl, hcell, hrd1⟩ := Ty.rd_at hrd hlt
  have hrd1 : ds = [.int .u8 (b[k].toNat : Int)] := hrd1
  subst hrd1
  have e0 : w0.cell? ⟨bb, o + k, none⟩ = some (.int .u8 (b[k].toNat : Int)) := by simpa [Ty.sz] using hcell 0 b_28
  have hbb : bb < w0.heap.size := World.block_lt_of_cell? _ _ e0
  have e1 : w.cell? ⟨bb, o + k, none⟩ = some (.int .u8 (b[k].toNat : Int)) := (hb1.cell (p := ⟨bb, o + k, none⟩) hbb).trans e0
  have hne : bb ≠ B := by omega
  clear hcell hl
  go_enter Try.func141, Try.ntmps141
  go_wp2
  go_quiet (fail)
  go_wp2
  go_quiet (fail)
  go_wp2
  go_quiet (fail)
  go_wp2
  go_ret
  refine ⟨b_3, ?_, _, rfl, by rw [i64_and255]; omega, by rw [i64_and255]; omega⟩
  refine ⟨w0, some ⟨bb, o, none⟩, c, ((k + 1 : Nat) : Int), wrap64 (wrap64 (hh * 6364136223846793005) + 1442695040888963407), b, hb0, (by repeat' (first | (with_reducible assumption) | (with_reducible refine Below.setCell ?_ b_25 _) | (with_reducible refine bel_drewN ?_ _) | (with_reducible refine bel_drew ?_))), hrd, ?_, ⟨by omega, by omega⟩⟩
  exact (hk.set_ 2 (.int .i64 (wrap64 (wrap64 (hh * 6364136223846793005) + 1442695040888963407)))).set_ 1 (.int .i64 ((k + 1 : Nat) : Int))
 ·go_enter Try.func141, Try.ntmps141
  go_wp2
  go_quiet (fail)
  go_wp2
  go_quiet (fail)
  go_wp2
  go_ret
  refine ⟨b_3, ?_, _, rfl, by rw [i64_and255]; omega, by rw [i64_and255]; omega⟩
  refine ⟨w0, A, c, (k : Int), wrap64 (wrap64 (hh * 6364136223846793005) + 1442695040888963407), b, hb0, (by repeat' (first | (with_reducible assumption) | (with_reducible refine Below.setCell ?_ b_25 _) | (with_reducible refine bel_drewN ?_ _) | (with_reducible refine bel_drew ?_))), hrd, ?_, ⟨by omega, by omega⟩⟩
  exact hk.set_ 2 (.int .i64 (wrap64 (wrap64 (hh * 6364136223846793005) + 1442695040888963407)))
theorem rem_bd (x n : Int) (h : 1 ≤ n) (hx : 0 ≤ x) : 0 ≤ x % n ∧ x % n ≤ n - 1 := by
 exact ⟨Int.emod_nonneg _ b_29, by have := Int.emod_lt_of_pos x (show (0 : Int) < n by omega); omega⟩
set_option maxHeartbeats 1000000 in
theorem C_spec_l1Below (w : World) (B : Nat) (n : Int) (hc : CurT w B) (h1 : 1 ≤ n) (h2 : n ≤ 1000000000) :
  Calls Try.prog 69 #[pB B, .int .i64 n] w (RetDT B w (DrI 0 (n - 1))) := by
 have q0 : decide (n ≤ 0) = false := by simp; omega
 have qn : (n == 0) = false := by rw [beq_eq_false_iff_ne]; omega
 by_cases hle : n ≤ 256
 ·go_enter Try.func69, Try.ntmps69
  go_wp2_with fail
  refine (C_spec_l1Byte _ B hc).mono ?_
  rintro e w1 ⟨hd1, hc1, x, rfl, hx0, hx1⟩
  have hr := rem_bd x n h1 hx0
  go_wp2
  go_ret
  exact ⟨hd1, hc1, _, rfl, hr.1, hr.2⟩
 ·go_enter Try.func69, Try.ntmps69
  go_wp2_with fail
  refine (C_spec_l1Byte _ B hc).mono ?_
  rintro e w1 ⟨hd1, hc1, x, rfl, hx0, hx1⟩
  go_wp2_with fail
  refine (C_spec_l1Byte _ B hc1).mono ?_
  rintro e w2 ⟨hd2, hc2, y, rfl, hy0, hy1⟩
  go_wp2_with fail
  refine (C_spec_l1Byte _ B hc2).mono ?_
  rintro e w3 ⟨hd3, hc3, z, rfl, hz0, hz1⟩
  have hr := rem_bd (x * 65536 + y * 256 + z) n h1 b_29
  go_wp2
  go_ret
  exact ⟨(hd1.trans hd2).trans hd3, hc3, _, rfl, hr.1, hr.2⟩
set_option maxHeartbeats 1000000 in
theorem C_spec_l1Once (w : World) (B : Nat) (n : Int) (hc : CurT w B) (h1 : 1 ≤ n) (h2 : n ≤ 1000000000) :
  Calls Try.prog 101 #[pB B, .int .i64 n] w (RetDT B w (fun e _ => ∃ b : Bool, e = .returned (.bool b))) := by
 go_enter Try.func101, Try.ntmps101
 go_wp2_with fail
 refine (C_spec_l1Below _ B n hc h1 h2).mono ?_
 rintro e w1 ⟨hd1, hc1, x, rfl, hx0, hx1⟩
 go_wp2
 go_ret
 exact ⟨hd1, hc1, _, rfl⟩
set_option maxHeartbeats 1000000 in
theorem C_spec_l1Str (w : World) (B : Nat) (v : Value) (l : List (List UInt8)) (hc : CurT w B) (h : (Ty.sl .str).rd (hide B w) [v] l) (h1 : 1 ≤ l.length) (h2 : l.length ≤ 256) :
  Calls Try.prog 140 #[pB B, v] w (RetDT B w (fun e _ => ∃ s ∈ l, e = .returned (vS s))) := by
 obtain ⟨A, c, rfl, hcl, hcm, hn⟩ := Ty.rd_sl h
 go_enter Try.func140, Try.ntmps140
 go_wp2_with fail
 refine (C_spec_l1Below _ B l.length hc b_29 b_29).mono ?_
 rintro e w1 ⟨hd1, hc1, x, rfl, hx0, hx1⟩
 obtain ⟨k, rfl⟩ : ∃ k : Nat, x = k := ⟨x.toNat, by omega⟩
 have hk : k < l.length := by omega
 obtain ⟨b, o, ds, rfl, hl, hcell, hrd⟩ := Ty.rd_at (rd_hide (Dr.rd hd1 h)) hk
 obtain ⟨rfl, hsl⟩ := hrd
 have e0 : w1.cell? ⟨b, o + k, none⟩ = some (vS l[k]) := by simpa [Ty.sz] using hcell 0 b_28
 clear hcell hl
 go_wp2
 go_ret
 exact ⟨hd1, hc1, _, List.getElem_mem hk, rfl⟩
set_option maxHeartbeats 1000000 in
theorem C_spec_l1Int (w : World) (B : Nat) (v : Value) (l : List Int) (hc : CurT w B) (h : (Ty.sl .int).rd (hide B w) [v] l) (h1 : 1 ≤ l.length) (h2 : l.length ≤ 256) :
  Calls Try.prog 103 #[pB B, v] w (RetDT B w (fun e _ => ∃ s ∈ l, e = .returned (.int .i64 s))) := by
 obtain ⟨A, c, rfl, hcl, hcm, hn⟩ := Ty.rd_sl h
 go_enter Try.func103, Try.ntmps103
 go_wp2_with fail
 refine (C_spec_l1Below _ B l.length hc b_29 b_29).mono ?_
 rintro e w1 ⟨hd1, hc1, x, rfl, hx0, hx1⟩
 obtain ⟨k, rfl⟩ : ∃ k : Nat, x = k := ⟨x.toNat, by omega⟩
 have hk : k < l.length := by omega
 obtain ⟨b, o, ds, rfl, hl, hcell, hrd⟩ := Ty.rd_at (rd_hide (Dr.rd hd1 h)) hk
 obtain ⟨rfl, hsl⟩ := hrd
 have e0 : w1.cell? ⟨b, o + k, none⟩ = some (.int .i64 l[k]) := by simpa [Ty.sz] using hcell 0 b_28
 clear hcell hl
 go_wp2
 go_ret
 exact ⟨hd1, hc1, _, List.getElem_mem hk, rfl⟩
def okByte (c : UInt8) : Bool := (decide (97 ≤ c.toNat) && decide (c.toNat ≤ 122)) || (decide (48 ≤ c.toNat) && decide (c.toNat ≤ 57)) || decide (c.toNat = 45)
def validPart (s : List UInt8) : Bool := s.all okByte && (decide (1 ≤ s.length) && decide (s.length ≤ 8))
def isVar : List UInt8 → Bool
 | [a, c] => decide (a = 63) && (decide (97 ≤ c.toNat) && decide (c.toNat ≤ 122))
 | _ => false
def validName (n : List (List UInt8)) : Bool := n.all validPart && decide (n.length ≤ 6)
def patPart (n i : Nat) (s : List UInt8) : Bool := validPart s || decide (s = [42]) || isVar s || (decide (s = [42, 42]) && decide (i + 1 = n))
def validPat (p : List (List UInt8)) : Bool := (List.range p.length).all (fun i => patPart p.length i (p.getD i [])) && decide (p.length ≤ 6)
def validRule (r : List (List UInt8) × List (List UInt8)) : Bool := validPat r.1 && validPat r.2 && r.2.all (fun s => !isVar s || r.1.contains s)
theorem all_take_succ {α : Type} (p : α → Bool) (l : List α) {k : Nat} (h : k < l.length) : (l.take (k + 1)).all p = ((l.take k).all p && p l[k]) := by
 rw [List.take_succ_eq_append_getElem h, List.all_append]; simp
theorem all_false_of {α : Type} (p : α → Bool) (l : List α) {k : Nat} (h : k < l.length) (hp : p l[k] = false) : l.all p = false := by
 rw [List.all_eq_false]; exact ⟨l[k], List.getElem_mem h, by simp [hp]⟩
theorem any_take_succ {α : Type} (p : α → Bool) (l : List α) {k : Nat} (h : k < l.length) : (l.take (k + 1)).any p = ((l.take k).any p || p l[k]) := by
 rw [List.take_succ_eq_append_getElem h, List.any_append]; simp
abbrev tData : Ty := (.pr (.sl .str) (.pr (.sl .byte) (.pr (.sl .str) (.pr .int .int))))
theorem rd_Data {w : World} {cs : List Value} {x : tData.D} (h : tData.rd w cs x) : ∃ (A0 : Option Addr) (c0 : Nat) (A1 : Option Addr) (c1 : Nat) (A2 : Option Addr) (c2 : Nat), cs = [.slice A0 (List.length x.1) c0, .slice A1 (List.length x.2.1) c1, .slice A2 (List.length x.2.2.1) c2, .int .i64 x.2.2.2.1, .int .i64 x.2.2.2.2] ∧ (Ty.rd w (.sl .str) [.slice A0 (List.length x.1) c0] x.1) ∧ (Ty.rd w (.sl .byte) [.slice A1 (List.length x.2.1) c1] x.2.1) ∧ (Ty.rd w (.sl .str) [.slice A2 (List.length x.2.2.1) c2] x.2.2.1) ∧ (-9223372036854775808 ≤ x.2.2.2.1 ∧ x.2.2.2.1 ≤ 9223372036854775807) ∧ (-9223372036854775808 ≤ x.2.2.2.2 ∧ x.2.2.2.2 ≤ 9223372036854775807) := by
 obtain ⟨c0, r0, rfl, g0, q0⟩ := h
 obtain ⟨c1, r1, rfl, g1, q1⟩ := q0
 obtain ⟨c2, r2, rfl, g2, q2⟩ := q1
 obtain ⟨c3, r3, rfl, g3, q3⟩ := q2
 have g4 := q3
 obtain ⟨A0, c0, rfl⟩ := Ty.rd_slv g0
 obtain ⟨A1, c1, rfl⟩ := Ty.rd_slv g1
 obtain ⟨A2, c2, rfl⟩ := Ty.rd_slv g2
 obtain ⟨rfl, b3⟩ := g3
 obtain ⟨rfl, b4⟩ := g4
 exact ⟨A0, c0, A1, c1, A2, c2, rfl, g0, g1, g2, b3, b4⟩
theorem ow_Data {w : World} {cs : List Value} {x : tData.D} {fp : List Nat} (h : tData.ow w cs x fp) : ∃ (A0 : Option Addr) (c0 : Nat) (A1 : Option Addr) (c1 : Nat) (A2 : Option Addr) (c2 : Nat), cs = [.slice A0 (List.length x.1) c0, .slice A1 (List.length x.2.1) c1, .slice A2 (List.length x.2.2.1) c2, .int .i64 x.2.2.2.1, .int .i64 x.2.2.2.2] := by
 obtain ⟨c0, r0, f0, t0, rfl, _, g0, q0⟩ := h
 obtain ⟨c1, r1, f1, t1, rfl, _, g1, q1⟩ := q0
 obtain ⟨c2, r2, f2, t2, rfl, _, g2, q2⟩ := q1
 obtain ⟨c3, r3, f3, t3, rfl, _, g3, q3⟩ := q2
 have g4 := q3
 obtain ⟨A0, c0, rfl⟩ := Ty.ow_slv g0
 obtain ⟨A1, c1, rfl⟩ := Ty.ow_slv g1
 obtain ⟨A2, c2, rfl⟩ := Ty.ow_slv g2
 obtain ⟨⟨rfl, b3⟩, _⟩ := g3
 obtain ⟨⟨rfl, b4⟩, _⟩ := g4
 exact ⟨A0, c0, A1, c1, A2, c2, rfl⟩
abbrev tRule : Ty := (.pr (.sl .str) (.sl .str))
theorem bulk_app {e : Ty} (x y : List e.D) : Ty.bulk (.sl e) (x ++ y) = Ty.bulk (.sl e) x + Ty.bulk (.sl e) y := by
 show (x ++ y).length + ((x ++ y).map (fun d => e.bulk d)).sum = (x.length + (x.map (fun d => e.bulk d)).sum) + (y.length + (y.map (fun d => e.bulk d)).sum)
 rw [List.length_append, List.map_append, List.sum_append]; omega
theorem bulk_one {e : Ty} (d : e.D) : Ty.bulk (.sl e) [d] = e.bulk d + 1 := by
 show 1 + ([d].map (fun d => e.bulk d)).sum = _
 simp; omega
end Go.Proofs.Ytldgbnlcnlfmeaa
