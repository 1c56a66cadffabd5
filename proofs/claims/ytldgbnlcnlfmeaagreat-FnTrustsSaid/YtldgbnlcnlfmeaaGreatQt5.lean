/- Texts of this claim, merged by a program: Ar3 Ar4 Bdr Drg Cpd Enc Apn Mac. -/
import Derived.Test.YtldgbnlcnlfmeaaGreatQtP
import Derived.Test.YtldgbnlcnlfmeaaGreatQt4
import Derived.ArgAppend
import Derived.Test.YtldgbnlcnlfmeaaGreatQt3
import Derived.Deep.RegionHeld3
import Derived.Test.YtldgbnlcnlfmeaaGreatQt2
import Derived.Laws.IdiomStrings
namespace Go.Proofs.YtldgbnlcnlfmeaaGreat
open Go.RowKit
set_option linter.unusedVariables false
set_option linter.unusedSimpArgs false
theorem GRow.at {e : Ty} {lo : Nat} {ex : List Nat} {w : World} {te : TypeId} {A : Option Addr} {n c : Nat} {x : List e.D} (h : GRow e lo ex w te (.slice A n c) x) {k : Nat} (hk : k < x.length) :
  ∃ g ds, A = some ⟨g, 0, none⟩ ∧ ds.length = e.sz ∧ (∀ j, j < e.sz → w.cell? ⟨g, k * e.sz + j, none⟩ = ds[j]?) ∧ (∀ i, w.frozen? ⟨g, i, none⟩ = false) ∧ (lo ≤ g ∧ g < w.heap.size ∧ g ∉ ex) ∧ e.rd w ds x[k] ∧
   (∀ (W : World) (te' : TypeId) (g' c' : Nat), Below w.heap.size w W → Blk W g' te' ds.toArray → ASrc e lo ex W (.slice A n c) (.slice (some ⟨g', 0, none⟩) 1 c') [x[k]]) := by
 have hbl := h.block
 obtain ⟨P, css, h0, h1, h2, h3⟩ := h
 have h1' := h1
 rcases h1.2 with ⟨hv, hn⟩ | ⟨g, cap, cur, hv, hbg, hg, hnc, hcm, hcs, htake⟩
 ·omega
 ·simp only [Value.slice.injEq] at hv
  obtain ⟨rfl, rfl, rfl⟩ := hv
  refine ⟨g, css k, rfl, (h2 k hk).1, fun j hj => ?_, fun i => Blk.frozen (t := te) (cs := cur) hg _, hbl g rfl, (h2 k hk).2 w (fun _ _ => rfl), fun W te' g' c' hb hB => ?_⟩
  ·have h5 : (k + 1) * e.sz ≤ x.length * e.sz := Nat.mul_le_mul_right _ hk
   rw [Nat.succ_mul] at h5
   rw [h1'.cellAt (k * e.sz + j) b_37]
   exact fmr_get css e.sz x.length (fun i hi => (h2 i hi).1) k j hk hj
  ·refine ⟨_, c', P, rfl, fun b hb' => ⟨(h0 b hb').1, Nat.lt_of_lt_of_le (h0 b hb').2.1 hb.size, (h0 b hb').2.2, fun e => (h3 b e).1 hb'⟩, fun _ => ⟨g', 0, rfl, fun i hi => ?_⟩⟩
   obtain rfl : i = 0 := by simpa using hi
   exact ⟨css k, (h2 k hk).1, fun j hj => by rw [Nat.zero_mul, Nat.add_zero, Nat.zero_add]; exact (hB.cell j).trans b_38, fun W' hW' => (h2 k hk).2 W' (fun b hb' => (hW' b hb').trans (hb.block b (h0 b hb').2.1))⟩
theorem GRow.setAt {e : Ty} {lo : Nat} {ex : List Nat} {w : World} {te : TypeId} {g n c : Nat} {x : List e.D} (h : GRow e lo ex w te (.slice (some ⟨g, 0, none⟩) n c) x) {k j : Nat} (hk : k < x.length) (hj : j < e.sz) (u : Value) (d : e.D)
  (hnew : ∀ (W : World) (ds : List Value), e.rd W ds x[k] → e.rd W (ds.set j u) d) : GRow e lo ex (w.setCell ⟨g, k * e.sz + j, none⟩ u) te (.slice (some ⟨g, 0, none⟩) n c) (x.set k d) := by
 obtain ⟨P, css, h0, h1, h2, h3⟩ := h
 rcases h1.2 with ⟨hv, hn⟩ | ⟨g', cap, cur, hv, hbg, hg, hnc, hcm, hcs, htake⟩
 ·omega
 ·simp only [Value.slice.injEq, Option.some.injEq, Addr.mk.injEq, and_true] at hv
  obtain ⟨⟨rfl, _⟩, rfl, rfl⟩ := hv
  have hlt : k * e.sz + j < x.length * e.sz := by
   have h5 : (k + 1) * e.sz ≤ x.length * e.sz := Nat.mul_le_mul_right _ hk
   rw [Nat.succ_mul] at h5; omega
  have hcap : x.length * e.sz ≤ c * e.sz := Nat.mul_le_mul_right _ hnc
  have hfl : ((List.range x.length).flatMap css).length = x.length * e.sz := fmr_len css e.sz x.length (fun i hi => (h2 i hi).1)
  have hcss : (List.range x.length).flatMap (fun i => if i = k then (css k).set j u else css i) = ((List.range x.length).flatMap css).set (k * e.sz + j) u := by
   have hl' : ∀ i, i < x.length → ((fun i => if i = k then (css k).set j u else css i) i).length = e.sz := by
    intro i hi
    by_cases hik : i = k
    ·simp only [hik, if_true, List.length_set]; exact (h2 k hk).1
    ·simp only [if_neg hik]; exact (h2 i hi).1
   have hfl' := fmr_len (fun i => if i = k then (css k).set j u else css i) e.sz x.length hl'
   apply List.ext_getElem?
   intro m
   by_cases hm : m < x.length * e.sz
   ·have hpos := Ty.sz_pos e
    have hdiv : m / e.sz < x.length := (Nat.div_lt_iff_lt_mul hpos).2 hm
    have hmod : m % e.sz < e.sz := Nat.mod_lt _ hpos
    have hmm : m / e.sz * e.sz + m % e.sz = m := by rw [Nat.mul_comm]; exact Nat.div_add_mod m e.sz
    have g1 := fmr_get (fun i => if i = k then (css k).set j u else css i) e.sz x.length hl' _ _ hdiv hmod
    have g2 := fmr_get css e.sz x.length (fun i hi => (h2 i hi).1) _ _ hdiv hmod
    rw [hmm] at g1 g2
    rw [g1, List.getElem?_set]
    by_cases hik : m / e.sz = k
    ·simp only [hik, if_true]
     rw [List.getElem?_set]
     by_cases hmj : j = m % e.sz
     ·have e1 : k * e.sz + j = m := by rw [← hik, hmj]; exact hmm
      rw [if_pos hmj, if_pos e1, if_pos (by rw [(h2 k hk).1]; exact hj), if_pos (by rw [hfl]; exact hlt)]
     ·have e1 : ¬ k * e.sz + j = m := fun e' => hmj (by rw [← hik] at e'; omega)
      rw [if_neg hmj, if_neg e1, g2, hik]
    ·have e1 : ¬ k * e.sz + j = m := by
      intro e'
      apply hik
      rw [← e', Nat.mul_comm, Nat.mul_add_div hpos, Nat.div_eq_of_lt hj, Nat.add_zero]
     simp only [if_neg hik]
     rw [if_neg e1, g2]
   ·rw [List.getElem?_eq_none (by rw [hfl']; omega), List.getElem?_eq_none (by rw [List.length_set, hfl]; omega)]
  refine ⟨P, fun i => if i = k then (css k).set j u else css i, fun b hb => ⟨(h0 b hb).1, by rw [World.size_setCell]; exact (h0 b hb).2.1, (h0 b hb).2.2⟩, ?_, fun i hi => ?_, h3⟩
  ·rw [List.length_set, hcss]
   refine ⟨by rw [List.length_set]; exact h1.1, .inr ⟨g, c, cur.setIfInBounds (k * e.sz + j) u, rfl, hbg, ?_, hnc, hcm, by simpa using hcs, ?_⟩⟩
   ·exact Blk.set_ (t := te) hg (k * e.sz + j) u
   ·rw [Array.toList_setIfInBounds, List.take_set, htake]
  ·have hi' : i < x.length := by rwa [List.length_set] at hi
   by_cases hik : i = k
   ·subst hik
    simp only [if_true, List.length_set]
    refine ⟨(h2 i hi').1, fun W hW => ?_⟩
    rw [List.getElem_set_self]
    refine hnew W _ ((h2 i hi').2 W (fun b hb => (hW b hb).trans (Below.heap_setCell _ _ _ _ (fun e' => (h3 g rfl).1 (by rw [← show b = g from e']; exact hb)))))
   ·simp only [if_neg hik]
    refine ⟨(h2 i hi').1, fun W hW => ?_⟩
    rw [List.getElem_set_ne (Ne.symm hik)]
    exact (h2 i hi').2 W (fun b hb => (hW b hb).trans (Below.heap_setCell _ _ _ _ (fun e' => (h3 g rfl).1 (by rw [← show b = g from e']; exact hb))))
theorem GRow.lit2 {e : Ty} {lo a1 b1 a2 b2 g : Nat} {w : World} {te : TypeId} {ds1 ds2 : List Value} {d1 d2 : e.D} (hb : Blk w g te (ds1 ++ ds2).toArray) (h1 : RdI e a1 b1 w ds1 d1) (h2 : RdI e a2 b2 w ds2 d2) (hg1 : g < a1 ∨ b1 ≤ g) (hg2 : g < a2 ∨ b2 ≤ g) (hlo : lo ≤ g) (hl1 : lo ≤ a1) (hl2 : lo ≤ a2) :
  GRow e lo [] w te (.slice (some ⟨g, 0, none⟩) 2 2) [d1, d2] := by
 refine ⟨fun b => (a1 ≤ b ∧ b < b1) ∨ (a2 ≤ b ∧ b < b2), fun i => if i = 0 then ds1 else ds2, fun b hb' => ⟨by omega, by have := h1.1; have := h2.1; omega, by simp⟩, ?_, fun i hi => ?_, fun q hq => ?_⟩
 ·have := ownsRow_blk (n := 2) (sz := e.sz) (lo := lo) hb hlo (by rw [List.length_append, Ty.rd_len h1.rd, Ty.rd_len h2.rd]; omega) (by unfold maxLen; omega)
  simpa [List.range_succ] using this
 ·have : i = 0 ∨ i = 1 := by simp at hi; omega
  rcases this with rfl | rfl
  ·exact ⟨Ty.rd_len h1.rd, fun W hW => h1.2 W (fun b p q => hW b (.inl ⟨p, q⟩))⟩
  ·exact ⟨Ty.rd_len h2.rd, fun W hW => h2.2 W (fun b p q => hW b (.inr ⟨p, q⟩))⟩
 ·have : g = q := by simpa [Value.ownBlock] using hq
  subst this
  exact ⟨fun h => by omega, by simp⟩
theorem RdI.elems {e : Ty} {lo hi : Nat} {w : World} {A : Option Addr} {n c : Nat} {x : List e.D} (h : RdI (.sl e) lo hi w [.slice A n c] x) (h0 : 0 < x.length) :
  ∃ b o, A = some ⟨b, o, none⟩ ∧ ∀ i (hi' : i < x.length), ∃ ds : List Value, ds.length = e.sz ∧ (∀ j, j < e.sz → w.cell? ⟨b, o + i * e.sz + j, none⟩ = ds[j]?) ∧ ∀ W : World, (∀ b, lo ≤ b → b < hi → W.heap[b]? = w.heap[b]?) → e.rd W ds x[i] := by
 have hpos := Ty.sz_pos e
 obtain ⟨b, o, ds0, hA, hl0, hc0, _⟩ := Ty.rd_at h.rd h0
 subst hA
 have hb : lo ≤ b ∧ b < hi := by
  apply Decidable.byContradiction
  intro hn
  have hW : ∀ q, lo ≤ q → q < hi → (Go.Proofs.YtldgbnlcnlfmeaaGreat.hide b w).heap[q]? = w.heap[q]? := fun q h1 h2 => Go.Proofs.YtldgbnlcnlfmeaaGreat.hide_other b_37 w
  obtain ⟨b', o', ds', hA', hl', hc', _⟩ := Ty.rd_at (h.2 (Go.Proofs.YtldgbnlcnlfmeaaGreat.hide b w) hW) h0
  simp only [Option.some.injEq, Addr.mk.injEq, and_true] at hA'
  obtain ⟨rfl, rfl⟩ := hA'
  have h1 := hc' 0 hpos
  rw [List.getElem?_eq_getElem b_37] at h1
  exact (Go.Proofs.YtldgbnlcnlfmeaaGreat.hide_cell h1).2 rfl
 refine ⟨b, o, rfl, fun i hi' => ?_⟩
 obtain ⟨b1, o1, ds, hA1, hl, hc, _⟩ := Ty.rd_at h.rd hi'
 simp only [Option.some.injEq, Addr.mk.injEq, and_true] at hA1
 obtain ⟨rfl, rfl⟩ := hA1
 refine ⟨ds, hl, hc, fun W hW => ?_⟩
 obtain ⟨b2, o2, ds2, hA2, hl2, hc2, hr2⟩ := Ty.rd_at (h.2 W hW) hi'
 simp only [Option.some.injEq, Addr.mk.injEq, and_true] at hA2
 obtain ⟨rfl, rfl⟩ := hA2
 have he : ds2 = ds := by
  apply List.ext_getElem?
  intro j
  by_cases hj : j < e.sz
  ·rw [← hc2 j hj, ← hc j hj]
   exact World.cell?_of_block (w := w) (w' := W) (a := ⟨b, o + i * e.sz + j, none⟩) (hW b hb.1 hb.2)
  ·rw [List.getElem?_eq_none b_37, List.getElem?_eq_none b_37]
 rw [← he]; exact hr2
theorem GRow.lit1x {e : Ty} {lo l1 h1 g : Nat} {ex : List Nat} {w : World} {te : TypeId} {ds : List Value} {d : e.D} (hb : Blk w g te ds.toArray) (h : RdI e l1 h1 w ds d) (hg : g < l1 ∨ h1 ≤ g) (hlo : lo ≤ g) (hl1 : lo ≤ l1) (hex : ∀ q ∈ ex, q ≠ g ∧ (q < l1 ∨ h1 ≤ q)) : GRow e lo ex w te (.slice (some ⟨g, 0, none⟩) 1 1) [d] := by
 have hg' := hb.lt
 refine ⟨fun b => l1 ≤ b ∧ b < h1, fun _ => ds, fun b hb' => ⟨by omega, by have := h.1; omega, fun hm => by have := (hex b hm).2; omega⟩, ?_, ?_, fun q hq => ?_⟩
 ·have : (List.range 1).flatMap (fun _ => ds) = ds := by simp
  show w.ownsRow lo te e.sz _ 1 ((List.range 1).flatMap (fun _ => ds))
  rw [this]
  exact ownsRow_blk hb hlo (by rw [Nat.one_mul]; exact Ty.rd_len h.rd) (by unfold maxLen; omega)
 ·intro k hk
  obtain rfl : k = 0 := by simpa using hk
  exact ⟨Ty.rd_len h.rd, fun W hW => h.2 W (fun b p q => hW b ⟨p, q⟩)⟩
 ·have : g = q := by simpa [Value.ownBlock] using hq
  subst this
  exact ⟨fun hp => by omega, fun hm => (hex _ hm).1 rfl⟩
theorem ASrc.ofRdI {e : Ty} {lo l1 h1 : Nat} {ex : List Nat} {w : World} {v : Value} {A : Option Addr} {n c : Nat} {y : List e.D} (h : RdI (.sl e) l1 h1 w [.slice A n c] y) (hlo : lo ≤ l1) (hex : ∀ q ∈ ex, q < l1 ∨ h1 ≤ q) (hv : ∀ q, v.ownBlock = some q → q < l1 ∨ h1 ≤ q) : ASrc e lo ex w v (.slice A n c) y := by
 obtain ⟨A', c', hcs, _⟩ := h.rd
 injection hcs with hcs _
 refine ⟨A', c', fun b => l1 ≤ b ∧ b < h1, hcs, fun b hb => ⟨by omega, by have := h.1; omega, fun hm => by have := hex b hm; omega, fun hq => by have := hv b hq; omega⟩, fun h0 => ?_⟩
 simp only [Value.slice.injEq] at hcs
 obtain ⟨rfl, rfl, rfl⟩ := hcs
 obtain ⟨b, o, hA, hel⟩ := h.elems h0
 exact ⟨b, o, hA, fun i hi => by obtain ⟨ds, g1, g2, g3⟩ := hel i hi; exact ⟨ds, g1, g2, fun W hW => g3 W (fun b p q => hW b ⟨p, q⟩)⟩⟩
set_option maxHeartbeats 4000000 in
theorem run_append_full {P : Program} {w : World} {e : Ty} (t ty te : TypeId) {z : Value} {by_ : Nat} (hinfo : (P.info? te).map (fun i => (i.zero, i.size, i.bytes)) = some (some z, e.sz, by_)) (hz1 : z.cells.size = e.sz) (ht : P.underlying t = some (.slice te))
  {A : Option Addr} {n c g cg lo l1 h1 l2 h2 : Nat} {ex : List Nat} {x : List e.D} {d : e.D} {ds : List Value} {te' : TypeId} (hx : RdI (.sl e) l1 h1 w [.slice A n c] x) (h0 : 0 < x.length) (hc : c = x.length) (hb : Blk w g te' ds.toArray) (hd : RdI e l2 h2 w ds d)
  (hlo : lo ≤ l1 ∧ lo ≤ l2 ∧ lo ≤ w.heap.size) (hex : ∀ q ∈ ex, (q < l1 ∨ h1 ≤ q) ∧ (q < l2 ∨ h2 ≤ q) ∧ q < w.heap.size) (hbytes : (x.length + 1) * by_ ≤ 140737488355328) (hlen : x.length + 1 ≤ maxLen) :
  ∃ v' w', (Builtin.append_ #[t, t] ty #[.slice A n c, .slice (some ⟨g, 0, none⟩) 1 cg]).run P w = .ok v' w' ∧ GRow e lo ex w' te v' (x ++ [d]) ∧ w.grownBy w' none := by
 obtain ⟨i, hi, hzz⟩ := Option.map_eq_some_iff.1 hinfo
 simp only [Prod.mk.injEq] at hzz
 obtain ⟨hz, hsz, hby⟩ := hzz
 obtain ⟨A', c', hcs, _⟩ := hx.rd
 injection hcs with hcs _
 simp only [Value.slice.injEq] at hcs
 obtain ⟨rfl, rfl, rfl⟩ := hcs
 subst hc
 obtain ⟨b, o, rfl, hel⟩ := hx.elems h0
 have hpos := Ty.sz_pos e
 have hds : ∃ css : Nat → List Value, ∀ i (h : i < x.length), (css i).length = e.sz ∧ (∀ j, j < e.sz → w.cell? ⟨b, o + i * e.sz + j, none⟩ = (css i)[j]?) ∧ ∀ W : World, (∀ b, l1 ≤ b → b < h1 → W.heap[b]? = w.heap[b]?) → e.rd W (css i) x[i] := by
  refine ⟨fun i => if h : i < x.length then (hel i h).choose else [], fun i h => ?_⟩
  simp only [dif_pos h]
  exact (hel i h).choose_spec
 obtain ⟨css, hd1⟩ := hds
 have hl : ((List.range x.length).flatMap css).length = x.length * e.sz := fmr_len css e.sz x.length (fun i hi => (hd1 i hi).1)
 have hcells : ∀ j u, ((List.range x.length).flatMap css)[j]? = some u → w.cell? ((⟨b, o, none⟩ : Addr).add j) = some u := by
  intro j u hj
  have hjl : j < x.length * e.sz := by rw [← hl]; exact (List.getElem?_eq_some_iff.1 hj).1
  have hdiv : j / e.sz < x.length := (Nat.div_lt_iff_lt_mul hpos).2 hjl
  have hmod : j % e.sz < e.sz := Nat.mod_lt _ hpos
  have hjj : j / e.sz * e.sz + j % e.sz = j := by rw [Nat.mul_comm]; exact Nat.div_add_mod j e.sz
  have h5 := (hd1 _ hdiv).2.1 _ hmod
  have h6 := fmr_get css e.sz x.length (fun i hi => (hd1 i hi).1) _ _ hdiv hmod
  rw [hjj, hj] at h6
  rw [Addr.add_lit, show o + j = o + j / e.sz * e.sz + j % e.sz from by omega, h5, ← h6]
 have hnews : ∀ j u, ds[j]? = some u → w.cell? ((⟨g, 0, none⟩ : Addr).add j) = some u := by
  intro j u hj
  rw [Addr.add_lit, Nat.zero_add]
  exact (hb.cell j).trans (by simpa using hj)
 obtain ⟨v', w', hr, g1, g2⟩ := run_append_arg_grows (P := P) w t ty te i z e.sz by_ ht hi hz hsz hby hz1 hpos ⟨b, o, none⟩ x.length x.length _ hl hcells ⟨g, 0, none⟩ 1 cg ds (by rw [Nat.one_mul]; exact Ty.rd_len hd.rd) hnews b_37 hlen hbytes
 refine ⟨v', w', hr, ⟨fun q => (l1 ≤ q ∧ q < h1) ∨ (l2 ≤ q ∧ q < h2), glue x.length css (fun _ => ds), fun q hq => ⟨by omega, by have := hx.1; have := hd.1; have := g2.size; omega, fun hm => by have := hex q hm; omega⟩, ?_, ?_, fun q hq => ⟨fun hp => ?_, fun hm => by have := hex q hm; have := g1.lt q hq; omega⟩⟩, g2⟩
 ·rw [List.length_append, List.length_singleton, fmr_glue]
  have : (List.range 1).flatMap (fun _ => ds) = ds := by simp
  rw [this]
  refine ⟨g1.1, ?_⟩
  rcases g1.2 with hn | ⟨q, cap, cur, hv, hbg, rest⟩
  ·exact .inl hn
  ·exact .inr ⟨q, cap, cur, hv, by omega, rest⟩
 ·intro k hk
  by_cases hkx : k < x.length
  ·rw [glue_lt hkx, List.getElem_append_left hkx]
   exact ⟨(hd1 k hkx).1, fun W hW => (hd1 k hkx).2.2 W (fun q p1 p2 => (hW q (.inl ⟨p1, p2⟩)).trans (g2.block q (by have := hx.1; omega) b_38))⟩
  ·have hkk : k = x.length + 0 := by rw [List.length_append, List.length_singleton] at hk; omega
   subst hkk
   rw [glue_ge, List.getElem_append_right b_37]
   simp only [Nat.add_zero, Nat.sub_self, List.getElem_singleton]
   exact ⟨Ty.rd_len hd.rd, fun W hW => hd.2 W (fun q p1 p2 => (hW q (.inr ⟨p1, p2⟩)).trans (g2.block q (by have := hd.1; omega) b_38))⟩
 ·have := g1.lt q hq
  have h1' := hx.1; have h2' := hd.1
  omega
theorem step_append_full {P : Program} {w : World} {ops : Array Oper} {o : Oper} {a : Act} {K : Act → World → Prop} {Q : Exit → Act → World → Prop} {E : Prop} (hgd : o.guard = none) (s xo : Operand) (t : TypeId)
  (ho : o.op = .call { callee := .builtin .append, args := #[s, xo], argTypes := #[t, t] }) {e : Ty} (te : TypeId) {z : Value} {by_ : Nat} (hinfo : (P.info? te).map (fun i => (i.zero, i.size, i.bytes)) = some (some z, e.sz, by_)) (hz1 : z.cells.size = e.sz) (ht : P.underlying t = some (.slice te))
  {A : Option Addr} {n c g cg lo l1 h1 l2 h2 : Nat} {ex : List Nat} {x : List e.D} {d : e.D} {ds : List Value} {te' : TypeId} (hs : a.eval s = .slice A n c) (hxo : a.eval xo = .slice (some ⟨g, 0, none⟩) 1 cg) (hx : RdI (.sl e) l1 h1 w [.slice A n c] x) (h0 : 0 < x.length) (hc : c = x.length) (hb : Blk w g te' ds.toArray) (hd : RdI e l2 h2 w ds d)
  (hlo : lo ≤ l1 ∧ lo ≤ l2 ∧ lo ≤ w.heap.size) (hex : ∀ q ∈ ex, (q < l1 ∨ h1 ≤ q) ∧ (q < l2 ∨ h2 ≤ q) ∧ q < w.heap.size) (hbytes : (x.length + 1) * by_ ≤ 140737488355328) (hlen : x.length + 1 ≤ maxLen)
  (h : ∀ v' w', GRow e lo ex w' te v' (x ++ [d]) → w.grownBy w' none → K (a.put o.dst v') w') :
  if Region.wanted o (yielded ops a.tmps) = true then Oper.wp P o a w K Q else E := by
 have hw : Region.wanted o (yielded ops a.tmps) = true := by simp [Region.wanted, hgd]
 rw [if_pos hw]
 obtain ⟨v', w', hr, h2, h3⟩ := run_append_full (P := P) (cg := cg) (lo := lo) t o.type te hinfo hz1 ht hx h0 hc hb hd hlo hex hbytes hlen
 unfold Oper.wp execOp
 simp only [ho, resolve, invoke, builtin, Sem.run_bind, Sem.run_pure, Result.andThen_ok, List.map_toArray, List.map_cons, List.map_nil, hs, hxo, hr]
 exact h v' w' h2 h3
end Go.Proofs.YtldgbnlcnlfmeaaGreat
namespace Go.Proofs.YtldgbnlcnlfmeaaGreat
open Go.RowKit
set_option linter.unusedVariables false
set_option linter.unusedSimpArgs false
set_option maxRecDepth 100000 in
set_option maxHeartbeats 2000000 in
theorem C_spec_l1Bytes (w : World) (B n : Nat) (hc : CurT w B) (hn : n ≤ 256) :
  Calls Tryz.prog 94 #[pB B, .int .i64 n] w (RetDT B w (DrS .byte w (fun x => x.length = n))) := by
 have hB := hc.lt
 go_enter Tryz.func94, Tryz.ntmps94
 go_wp2
 go_loopw [5, 6] (fun v i wr => ∃ (k : Nat) (x : List UInt8), i = .int .i64 k ∧ k ≤ n ∧ x.length = k ∧ CurT wr B ∧ Dr B w wr ∧ Row flatB wr w.heap.size 5 v x) (fun _ i _ => n - (intOf i).toNat)
 case atStart => exact ⟨0, [], rfl, by omega, rfl, b_14, b_5, Row.lit0 flatB w 5 (Nat.le_refl _)⟩
 case round =>
  obtain ⟨k, x, rfl, hk, rfl, hcr, hdr, hR⟩ := hrel
  have zr := hdr.size
  obtain ⟨A, c, rfl⟩ := hR.form
  have HR := Lib.hid hR
  clear hR
  by_cases hlt : x.length < n
  ·go_wp2_with fail
   refine (C_spec_l1Byte _ B b_14).mono ?_
   rintro e w3 ⟨hd3, hc3, y, rfl, hy0, hy1⟩
   have z3 := hd3.size
   (try simp only [World.size_drew, size_drewN] at z3)
   have E3 : Dr B wr w3 := b_5
   have D3 : Dr B w w3 := hdr.trans E3
   have HR3 := Lib.hid (Row.dr HR.out E3 hB)
   have hyu : (.int .u8 (y : Int) : Value) = flatB.enc (UInt8.ofNat y.toNat) := by
    show _ = Value.int .u8 ((UInt8.ofNat y.toNat).toNat : Int)
    congr 1
    simp only [UInt8.toNat_ofNat']
    omega
   have hwy : IntKind.u8.wrap y = y := IntWalk.u8_in _ b_37
   have HL : Hid (Row flatB (w3.alloc (.cells #[.int .u8 y] 5)) w.heap.size 5 (.slice (some ⟨w3.heap.size, 0, none⟩) 1 1) [UInt8.ofNat y.toNat]) := by rw [hyu]; exact Row.lit1 flatB w3 5 _ trivial b_37
   clear hd3 hyu
   set_option maxRecDepth 100000 in go_wp2_with (at_builtin; go_loud (refine wpList_append_row rfl _ _ 22 rfl flatB w.heap.size 5 info_Byte rfl Tryz.underlying22 _ _ x [UInt8.ofNat y.toNat] rfl rfl (HR3.out.below b_10) (HL.out.rd b_32) ?_ ?_ ?_ ?_))
   case refine_1 => simp only [List.length_singleton]; omega
   case refine_2 => simp only [List.length_singleton]; unfold maxLen; omega
   case refine_3 => simp only [World.size_alloc]; omega
   intro v' w' hr' hg'
   have hbl := HR3.out.block
   have D4 : Dr B w w' := Dr.grown (Dr.alloc D3 _) hg' (fun g hg => (hbl g hg).1)
   have C4 : CurT w' B := Cur.grown (Cur.alloc hc3 _) hg' (fun g hg => by have := (hbl g hg).1; omega)
   have HR' := Lib.hid (show Row flatB w' w.heap.size 5 v' (x ++ [UInt8.ofNat y.toNat]) from hr')
   obtain ⟨A5, c5, rfl⟩ := HR'.out.form
   clear hr' hg' hbl
   go_wp2
   go_roundw
   case rel => exact ⟨x.length + 1, _, by go_num, by omega, by simp, C4, D4, HR'.out⟩
   case measure => simp [intOf]; omega
  ·go_wp2
   go_ret
   obtain ⟨fp9, how9, hfr9⟩ := HR.out.ow zr
   exact ⟨hdr, hcr, _, x, _, fp9, rfl, how9, hfr9, by omega⟩
theorem DRow.dr {e : Ty} {B : Nat} {w w' : World} {base : Nat} {te : TypeId} {v : Value} {x : List e.D} (h : DRow e w base te v x) (hd : Dr B w w') (hB : B < base) : DRow e w' base te v x := by
 obtain ⟨css, fs, h1, h2, h3, h4⟩ := h
 refine ⟨css, fs, ⟨h1.1, ?_⟩, fun i hi => ⟨(h2 i hi).1, Dr.ow hd (h2 i hi).2 (fun hm => ?_)⟩, h3.mono (Nat.le_refl _) hd.size, h4⟩
 ·rcases h1.2 with hn | ⟨g, cap, cur, rfl, hbg, hgg, rest⟩
  ·exact .inl hn
  ·exact .inr ⟨g, cap, cur, rfl, hbg, (Dr.block hd (Blk.lt (t := te) (cs := cur) hgg) b_37).trans hgg, rest⟩
 ·have hm2 : B ∈ (List.range x.length).flatMap fs := List.mem_flatMap.2 ⟨i, List.mem_range.2 hi, hm⟩
  have := (h3.2 B hm2).1; omega
theorem DRow.rdH {e : Ty} {B : Nat} {w : World} {base : Nat} {te : TypeId} {v : Value} {x : List e.D} (h : DRow e w base te v x) (hB : B < base) : (Ty.sl e).rd (hide B w) [v] x := by
 obtain ⟨A, c, fp, _, how, hfr⟩ := h.own
 exact Ty.ow_rd (ow_hideF how hfr hB)
theorem DRow.toFd {e : Ty} {w : World} {base : Nat} {te : TypeId} {v : Value} {x : List e.D} (h : DRow e w base te v x) : ∃ fp, DRowF e w base te v x fp ∧ FrI base w.heap.size fp := by
 obtain ⟨css, fs, h1, h2, h3, h4⟩ := h
 exact ⟨_, ⟨css, fs, h1, h2, rfl, h4⟩, h3⟩
theorem Src.toF {e : Ty} {w : World} {lo : Nat} {u : Value} {y : List e.D} (h : Src e w lo u y) : ∃ fq, SrcF e w u y fq ∧ FrI lo w.heap.size fq := by
 obtain ⟨A, c, fs, hu, hf, hc⟩ := h
 exact ⟨_, ⟨A, c, fs, hu, rfl, hc⟩, hf⟩
theorem DRow.setN {e : Ty} {w : World} {base : Nat} {te : TypeId} {v : Value} {x : List e.D} (h : DRow e w base te v x) {p : Addr} (hp : p.block < base) (u : Value) : DRow e (w.setCell p u) base te v x := by
 obtain ⟨css, fs, h1, h2, h3, h4⟩ := h
 refine ⟨css, fs, ⟨h1.1, ?_⟩, fun i hi => ⟨(h2 i hi).1, Ty.ow_keep (fun b hb => Below.heap_setCell _ _ _ _ ?_) (h2 i hi).2⟩, by rw [World.size_setCell]; exact h3, h4⟩
 ·rcases h1.2 with hn | ⟨g, cap, cur, rfl, hbg, hgg, rest⟩
  ·exact .inl hn
  ·exact .inr ⟨g, cap, cur, rfl, hbg, (Below.heap_setCell _ _ _ _ b_37).trans hgg, rest⟩
 ·have hm : b ∈ (List.range x.length).flatMap fs := List.mem_flatMap.2 ⟨i, List.mem_range.2 hi, hb⟩
  have := (h3.2 b hm).1; omega
theorem wpList_append_drowD {P : Program} {w : World} {ops : Array Oper} {rest : List Oper} {o : Oper} {a : Act} {Q : Exit → Act → World → Prop} (hgd : o.guard = none) (s xo : Operand) (t : TypeId)
  (ho : o.op = .call { callee := .builtin .append, args := #[s, xo], argTypes := #[t, t] }) {e : Ty} (w0 : World) (base : Nat) (te : TypeId) {z : Value} {by_ : Nat}
  (hinfo : (P.info? te).map (fun i => (i.zero, i.size, i.bytes)) = some (some z, e.sz, by_)) (hz1 : z.cells.size = e.sz) (ht : P.underlying t = some (.slice te))
  (v u : Value) (x y : List e.D) (hs : a.eval s = v) (hx : a.eval xo = u) (hown : DRow e w0 base te v x) (hsz : w0.heap.size ≤ w.heap.size) (hk : ∀ b, base ≤ b → b < w0.heap.size → w.heap[b]? = w0.heap[b]?) (hy : Src e w w0.heap.size u y) (hbytes : (x.length + y.length) * by_ ≤ 140737488355328) (hlen : x.length + y.length ≤ maxLen) (hbase : base ≤ w0.heap.size)
  (h : ∀ v' w', DRow e w' base te v' (x ++ y) → w.grownBy w' v.ownBlock → wpList P ops Q rest (a.put o.dst v') w') : wpList P ops Q (o :: rest) a w := by
 obtain ⟨fp, hF, hfp⟩ := hown.toFd
 obtain ⟨fq, hS, hfq⟩ := hy.toF
 have hF' : DRowF e w base te v x fp := hF.keep hsz (fun b hb => hk b (hfp.2 b hb).1 (hfp.2 b hb).2) (fun g hg => hk g (hown.block g hg).1 (hown.block g hg).2)
 refine wpList_append_drowF hgd s xo t ho base te hinfo hz1 ht v u x y fp fq hs hx hF' hS (fun g hg hm => ?_) hbytes hlen (Nat.le_trans hbase hsz) (fun v' w' hr hg _ => h v' w' (hr.drow ?_) hg)
 ·have := (hown.block g hg).2; have := (hfq.2 g hm).1; omega
 ·exact FrI.app hfp (hfq.mono (Nat.le_refl _) hg.size) (Nat.le_refl _) hbase (Nat.le_trans hsz hg.size)
theorem Cur.neq {tc : TypeId} {w : World} {B g : Nat} {t : TypeId} {cs : Array Value} (h : Cur tc w B) (hb : Blk w g t cs) (hs : cs.size ≠ 3) : g ≠ B := by
 intro e
 subst e
 obtain ⟨_, _, _, _, _, _, _, _, _, hk, _⟩ := h
 unfold Blk at hk hb
 rw [hk] at hb
 injection hb with hb
 injection hb with h1
 rw [← h1] at hs
 exact hs rfl
theorem owGrown {t : Ty} {w w' : World} {cs : List Value} {x : t.D} {fp : List Nat} {lo hi : Nat} {row : Option Nat} (h : t.ow w cs x fp) (hf : FrI lo hi fp) (hg : w.grownBy w' row) (hr : ∀ g, row = some g → hi ≤ g) : t.ow w' cs x fp :=
 Ty.ow_keep (fun b hb => hg.block b (Ty.ow_lt h b hb) (fun e => by have := hr b e.symm; have := (hf.2 b hb).2; omega)) h
theorem data_parts {x : tData.D} {B : Nat} (s : Ty.bulk tData x ≤ B) : x.1.length ≤ B ∧ x.2.1.length ≤ B ∧ x.2.2.1.length ≤ B := by
 have h1 : Ty.bulk (.sl .str) x.1 + (Ty.bulk (.sl .byte) x.2.1 + (Ty.bulk (.sl .str) x.2.2.1 + (0 + 0))) ≤ B := s
 exact ⟨Ty.bulk_len (e := .str) (x := x.1) (n := B) b_37, Ty.bulk_len (e := .byte) (x := x.2.1) (n := B) b_37, Ty.bulk_len (e := .str) (x := x.2.2.1) (n := B) b_37⟩
theorem ow_Data_mk {w : World} {x : tData.D} {A0 A1 A2 : Option Addr} {c0 c1 c2 : Nat} {f0 f1 f2 : List Nat} (h0 : (Ty.sl .str).ow w [.slice A0 (List.length x.1) c0] x.1 f0) (h1 : (Ty.sl .byte).ow w [.slice A1 (List.length x.2.1) c1] x.2.1 f1) (h2 : (Ty.sl .str).ow w [.slice A2 (List.length x.2.2.1) c2] x.2.2.1 f2)
  (b3 : -9223372036854775808 ≤ x.2.2.2.1 ∧ x.2.2.2.1 ≤ 9223372036854775807) (b4 : -9223372036854775808 ≤ x.2.2.2.2 ∧ x.2.2.2.2 ≤ 9223372036854775807) :
  tData.ow w [.slice A0 (List.length x.1) c0, .slice A1 (List.length x.2.1) c1, .slice A2 (List.length x.2.2.1) c2, .int .i64 x.2.2.2.1, .int .i64 x.2.2.2.2] x (f0 ++ (f1 ++ (f2 ++ ([] ++ [])))) :=
 ⟨[_], [_, _, _, _], f0, (f1 ++ (f2 ++ ([] ++ []))), rfl, rfl, h0, ⟨[_], [_, _, _], f1, (f2 ++ ([] ++ [])), rfl, rfl, h1, ⟨[_], [_, _], f2, ([] ++ []), rfl, rfl, h2, ⟨[_], [_], [], [], rfl, rfl, ⟨⟨rfl, b3⟩, rfl⟩, ⟨⟨rfl, b4⟩, rfl⟩⟩⟩⟩⟩
theorem fr3 {lo m1 m2 hi : Nat} {f0 f1 f2 : List Nat} (h0 : FrI lo m1 f0) (h1 : FrI m1 m2 f1) (h2 : FrI m2 hi f2) (l1 : lo ≤ m1) (l2 : m1 ≤ m2) (l3 : m2 ≤ hi) : FrI lo hi (f0 ++ (f1 ++ (f2 ++ ([] ++ [])))) :=
 FrI.app h0 (FrI.app h1 (FrI.app h2 (FrI.nil hi hi) (Nat.le_refl _) l3 (Nat.le_refl _)) (Nat.le_refl _) l2 b_37) (Nat.le_refl _) l1 b_37
set_option maxRecDepth 100000 in
set_option maxHeartbeats 2000000 in
theorem C_impl_copyData (w : World) (cs : List Value) (x : tData.D) (h : tData.rd w cs x) (s0 : Ty.bulk tData x ≤ 1000000000) :
  Calls Tryz.prog 136 #[.agg cs.toArray] w (RetAgg w tData x) := by
 obtain ⟨As0, cs0, As1, cs1, As2, cs2, rfl, sg0, sg1, sg2, sg3, sg4⟩ := rd_Data h
 obtain ⟨l0, l1, l2⟩ := data_parts s0
 go_enter Tryz.func136, Tryz.ntmps136
 go_wp2_with fail
 refine (C_impl_copyName _ _ x.1 (Ty.rd_below b_10 sg0) b_37).mono ?_
 rintro e w0 ⟨cs0, fp0, rfl, how0, hfr0, hb0⟩
 obtain ⟨A0, c0, rfl⟩ := Ty.ow_slv how0
 have hz0 := hb0.size
 simp only [World.size_alloc, World.size_setCell] at hz0
 have hw0 : Below w.heap.size w w0 := bel_trans b_10 hb0
 have hB0 : Blk w0 (w.heap.size) 34 #[.slice As0 (List.length x.1) cs0, .slice As1 (List.length x.2.1) cs1, .slice As2 (List.length x.2.2.1) cs2, .int .i64 x.2.2.2.1, .int .i64 x.2.2.2.2] := ((Blk.new w 34 #[.slice As0 (List.length x.1) cs0, .slice As1 (List.length x.2.1) cs1, .slice As2 (List.length x.2.2.1) cs2, .int .i64 x.2.2.2.1, .int .i64 x.2.2.2.2]).alloc _).below hb0 b_30
 have hR0 : Blk w0 (w.heap.size + 1) 34 #[.slice none 0 0, .slice none 0 0, .slice none 0 0, .int .i64 0, .int .i64 0] := (show Blk ((w.alloc (.cells #[.slice As0 (List.length x.1) cs0, .slice As1 (List.length x.2.1) cs1, .slice As2 (List.length x.2.2.1) cs2, .int .i64 x.2.2.2.1, .int .i64 x.2.2.2.2] 34)).alloc (.cells #[.slice none 0 0, .slice none 0 0, .slice none 0 0, .int .i64 0, .int .i64 0] 34)) (w.heap.size + 1) 34 #[.slice none 0 0, .slice none 0 0, .slice none 0 0, .int .i64 0, .int .i64 0] from by have := Blk.new (w.alloc (.cells #[.slice As0 (List.length x.1) cs0, .slice As1 (List.length x.2.1) cs1, .slice As2 (List.length x.2.2.1) cs2, .int .i64 x.2.2.2.1, .int .i64 x.2.2.2.2] 34)) 34 #[.slice none 0 0, .slice none 0 0, .slice none 0 0, .int .i64 0, .int .i64 0]; rwa [World.size_alloc] at this).below hb0 b_30
 obtain ⟨kB_0_0, kB_0_1, kB_0_2, kB_0_3, kB_0_4, fB_0_0, fB_0_1, fB_0_2, fB_0_3, fB_0_4, zB_0⟩ := bk5 hB0
 obtain ⟨kR_0_0, kR_0_1, kR_0_2, kR_0_3, kR_0_4, fR_0_0, fR_0_1, fR_0_2, fR_0_3, fR_0_4, zR_0⟩ := bk5 hR0
 go_wp2_with fail
 refine (C_slices_Clone_byte _ _ x.2.1 (Ty.rd_below (bel_set hw0 (Nat.le_refl _) _) sg1) b_37).mono ?_
 rintro e w1 ⟨v1, rfl, hr1, hb1⟩
 obtain ⟨A1, c1, fp1, rfl, how1, hfr1⟩ := hr1.own hb1.size
 clear hr1
 have hz1 := hb1.size
 simp only [World.size_alloc, World.size_setCell] at hz1
 have hw1 : Below w.heap.size w w1 := bel_trans b_10 hb1
 clear kB_0_0 fB_0_0 kB_0_1 fB_0_1 kB_0_2 fB_0_2 kB_0_3 fB_0_3 kB_0_4 fB_0_4 kR_0_0 fR_0_0 kR_0_1 fR_0_1 kR_0_2 fR_0_2 kR_0_3 fR_0_3 kR_0_4 fR_0_4
 have hB1 : Blk w1 (w.heap.size) 34 #[.slice A0 (List.length x.1) c0, .slice As1 (List.length x.2.1) cs1, .slice As2 (List.length x.2.2.1) cs2, .int .i64 x.2.2.2.1, .int .i64 x.2.2.2.2] := (hB0.set_ 0 (.slice A0 (List.length x.1) c0)).below hb1 b_29
 have hR1 : Blk w1 (w.heap.size + 1) 34 #[.slice none 0 0, .slice none 0 0, .slice none 0 0, .int .i64 0, .int .i64 0] := (hR0.far b_34 (.slice A0 (List.length x.1) c0)).below hb1 b_29
 obtain ⟨kB_1_0, kB_1_1, kB_1_2, kB_1_3, kB_1_4, fB_1_0, fB_1_1, fB_1_2, fB_1_3, fB_1_4, zB_1⟩ := bk5 hB1
 obtain ⟨kR_1_0, kR_1_1, kR_1_2, kR_1_3, kR_1_4, fR_1_0, fR_1_1, fR_1_2, fR_1_3, fR_1_4, zR_1⟩ := bk5 hR1
 go_wp2_with fail
 refine (C_impl_copyName _ _ x.2.2.1 (Ty.rd_below (bel_set hw1 (Nat.le_refl _) _) sg2) b_37).mono ?_
 rintro e w2 ⟨cs2, fp2, rfl, how2, hfr2, hb2⟩
 obtain ⟨A2, c2, rfl⟩ := Ty.ow_slv how2
 have hz2 := hb2.size
 simp only [World.size_alloc, World.size_setCell] at hz2
 have hw2 : Below w.heap.size w w2 := bel_trans b_10 hb2
 clear kB_1_0 fB_1_0 kB_1_1 fB_1_1 kB_1_2 fB_1_2 kB_1_3 fB_1_3 kB_1_4 fB_1_4 kR_1_0 fR_1_0 kR_1_1 fR_1_1 kR_1_2 fR_1_2 kR_1_3 fR_1_3 kR_1_4 fR_1_4
 have hB2 : Blk w2 (w.heap.size) 34 #[.slice A0 (List.length x.1) c0, .slice A1 (List.length x.2.1) c1, .slice As2 (List.length x.2.2.1) cs2, .int .i64 x.2.2.2.1, .int .i64 x.2.2.2.2] := (hB1.set_ 1 (.slice A1 (List.length x.2.1) c1)).below hb2 b_29
 have hR2 : Blk w2 (w.heap.size + 1) 34 #[.slice none 0 0, .slice none 0 0, .slice none 0 0, .int .i64 0, .int .i64 0] := (hR1.far b_34 (.slice A1 (List.length x.2.1) c1)).below hb2 b_29
 obtain ⟨kB_2_0, kB_2_1, kB_2_2, kB_2_3, kB_2_4, fB_2_0, fB_2_1, fB_2_2, fB_2_3, fB_2_4, zB_2⟩ := bk5 hB2
 obtain ⟨kR_2_0, kR_2_1, kR_2_2, kR_2_3, kR_2_4, fR_2_0, fR_2_1, fR_2_2, fR_2_3, fR_2_4, zR_2⟩ := bk5 hR2
 go_wp2
 refine bodyPost_ret (v := .agg #[.slice A0 (List.length x.1) c0, .slice A1 (List.length x.2.1) c1, .slice A2 (List.length x.2.2.1) c2, .int .i64 x.2.2.2.1, .int .i64 x.2.2.2.2]) (by simp [results, Tryz.results136, go_sem, kB_2_0, kB_2_1, kB_2_2, kB_2_3, kB_2_4, kR_2_0, kR_2_1, kR_2_2, kR_2_3, kR_2_4, fB_2_0, fB_2_1, fB_2_2, fB_2_3, fB_2_4, fR_2_0, fR_2_1, fR_2_2, fR_2_3, fR_2_4]) rfl ?_
 exact ⟨_, _, rfl, ow_Data_mk (Ty.ow_keep b_3 how0) (Ty.ow_keep (by intro b hb'; have hb'' := (hfr1).2 b hb'; (try simp only [szz] at hb''); repeat (first | (with_reducible rfl) | (rw [Below.heap_setCell _ _ _ _ b_33]) | (rw [Below.heap_alloc _ _ _ (by simp only [World.size_alloc, World.size_setCell]; omega)]) | (rw [hb2.block _ (by simp only [szz]; omega)]))) how1) (Ty.ow_keep b_13 how2) sg3 sg4, (fr3 (m1 := w0.heap.size) (m2 := w1.heap.size) (hfr0.mono b_32 (Nat.le_refl _)) (hfr1.mono b_23 (Nat.le_refl _)) (hfr2.mono b_23 b_32) b_32 b_32 b_32), bel_trans b_10 (Below.refl _ _)⟩
set_option maxRecDepth 100000 in
set_option maxHeartbeats 2000000 in
theorem C_spec_l8Copy (w : World) (cs : List Value) (x : tData.D) (h : tData.rd w cs x) (s0 : Ty.bulk tData x ≤ 1000000000) :
  Calls Tryz.prog 139 #[.agg cs.toArray] w (RetAgg w tData x) := by
 obtain ⟨As0, cs0, As1, cs1, As2, cs2, rfl, sg0, sg1, sg2, sg3, sg4⟩ := rd_Data h
 obtain ⟨l0, l1, l2⟩ := data_parts s0
 go_enter Tryz.func139, Tryz.ntmps139
 go_wp2_with fail
 refine (C_spec_l4Copy _ _ x.1 (Ty.rd_below b_10 sg0) b_37).mono ?_
 rintro e w0 ⟨cs0, fp0, rfl, how0, hfr0, hb0⟩
 obtain ⟨A0, c0, rfl⟩ := Ty.ow_slv how0
 have hz0 := hb0.size
 simp only [World.size_alloc, World.size_setCell] at hz0
 have hw0 : Below w.heap.size w w0 := bel_trans b_10 hb0
 have hB0 : Blk w0 (w.heap.size) 34 #[.slice As0 (List.length x.1) cs0, .slice As1 (List.length x.2.1) cs1, .slice As2 (List.length x.2.2.1) cs2, .int .i64 x.2.2.2.1, .int .i64 x.2.2.2.2] := (((Blk.new w 34 #[.slice As0 (List.length x.1) cs0, .slice As1 (List.length x.2.1) cs1, .slice As2 (List.length x.2.2.1) cs2, .int .i64 x.2.2.2.1, .int .i64 x.2.2.2.2]).alloc _).alloc _).below hb0 b_30
 have hR0 : Blk w0 (w.heap.size + 1) 34 #[.slice none 0 0, .slice none 0 0, .slice none 0 0, .int .i64 0, .int .i64 0] := ((show Blk ((w.alloc (.cells #[.slice As0 (List.length x.1) cs0, .slice As1 (List.length x.2.1) cs1, .slice As2 (List.length x.2.2.1) cs2, .int .i64 x.2.2.2.1, .int .i64 x.2.2.2.2] 34)).alloc (.cells #[.slice none 0 0, .slice none 0 0, .slice none 0 0, .int .i64 0, .int .i64 0] 34)) (w.heap.size + 1) 34 #[.slice none 0 0, .slice none 0 0, .slice none 0 0, .int .i64 0, .int .i64 0] from by have := Blk.new (w.alloc (.cells #[.slice As0 (List.length x.1) cs0, .slice As1 (List.length x.2.1) cs1, .slice As2 (List.length x.2.2.1) cs2, .int .i64 x.2.2.2.1, .int .i64 x.2.2.2.2] 34)) 34 #[.slice none 0 0, .slice none 0 0, .slice none 0 0, .int .i64 0, .int .i64 0]; rwa [World.size_alloc] at this).alloc _).below hb0 b_30
 have hO0 : Blk w0 (w.heap.size + 1 + 1) 34 #[.slice As0 (List.length x.1) cs0, .slice As1 (List.length x.2.1) cs1, .slice As2 (List.length x.2.2.1) cs2, .int .i64 x.2.2.2.1, .int .i64 x.2.2.2.2] := (show Blk (((w.alloc (.cells #[.slice As0 (List.length x.1) cs0, .slice As1 (List.length x.2.1) cs1, .slice As2 (List.length x.2.2.1) cs2, .int .i64 x.2.2.2.1, .int .i64 x.2.2.2.2] 34)).alloc (.cells #[.slice none 0 0, .slice none 0 0, .slice none 0 0, .int .i64 0, .int .i64 0] 34)).alloc (.cells #[.slice As0 (List.length x.1) cs0, .slice As1 (List.length x.2.1) cs1, .slice As2 (List.length x.2.2.1) cs2, .int .i64 x.2.2.2.1, .int .i64 x.2.2.2.2] 34)) (w.heap.size + 1 + 1) 34 #[.slice As0 (List.length x.1) cs0, .slice As1 (List.length x.2.1) cs1, .slice As2 (List.length x.2.2.1) cs2, .int .i64 x.2.2.2.1, .int .i64 x.2.2.2.2] from by have := Blk.new ((w.alloc (.cells #[.slice As0 (List.length x.1) cs0, .slice As1 (List.length x.2.1) cs1, .slice As2 (List.length x.2.2.1) cs2, .int .i64 x.2.2.2.1, .int .i64 x.2.2.2.2] 34)).alloc (.cells #[.slice none 0 0, .slice none 0 0, .slice none 0 0, .int .i64 0, .int .i64 0] 34)) 34 #[.slice As0 (List.length x.1) cs0, .slice As1 (List.length x.2.1) cs1, .slice As2 (List.length x.2.2.1) cs2, .int .i64 x.2.2.2.1, .int .i64 x.2.2.2.2]; rwa [World.size_alloc, World.size_alloc] at this).below hb0 b_30
 obtain ⟨kB_0_0, kB_0_1, kB_0_2, kB_0_3, kB_0_4, fB_0_0, fB_0_1, fB_0_2, fB_0_3, fB_0_4, zB_0⟩ := bk5 hB0
 obtain ⟨kR_0_0, kR_0_1, kR_0_2, kR_0_3, kR_0_4, fR_0_0, fR_0_1, fR_0_2, fR_0_3, fR_0_4, zR_0⟩ := bk5 hR0
 obtain ⟨kO_0_0, kO_0_1, kO_0_2, kO_0_3, kO_0_4, fO_0_0, fO_0_1, fO_0_2, fO_0_3, fO_0_4, zO_0⟩ := bk5 hO0
 have HL0 : Hid (Row flatB ((w0.setCell ⟨w.heap.size + 1 + 1, 0, none⟩ (.slice A0 (List.length x.1) c0)).alloc (.cells #[] 5)) w0.heap.size 5 (.slice (some ⟨w0.heap.size, 0, none⟩) 0 0) []) := by
  have := Row.lit0 flatB (w0.setCell ⟨w.heap.size + 1 + 1, 0, none⟩ (.slice A0 (List.length x.1) c0)) 5 (Nat.le_refl _)
  simp only [World.size_setCell] at this
  exact Lib.hid this
 go_wp2_with (at_builtin; go_loud (refine wpList_append_row rfl _ _ 22 rfl flatB w0.heap.size 5 infoB rfl Tryz.underlying22 _ _ [] x.2.1 rfl rfl HL0.out (Ty.rd_below (bel_alloc (bel_set hw0 b_34 _) _) sg1) ?_ ?_ ?_ ?_))
 case refine_1 => simp only [List.length_nil]; omega
 case refine_2 => simp only [List.length_nil]; unfold maxLen; omega
 case refine_3 => simp only [World.size_alloc, World.size_setCell]; omega
 intro v1 w1 hr1 hg1
 have hr1' : Row flatB w1 w0.heap.size 5 v1 x.2.1 := hr1
 have hb1 : Below (w0.setCell ⟨w.heap.size + 1 + 1, 0, none⟩ (.slice A0 (List.length x.1) c0)).heap.size (w0.setCell ⟨w.heap.size + 1 + 1, 0, none⟩ (.slice A0 (List.length x.1) c0)) w1 := bel_grown (bel_alloc (Below.refl _ _) _) (by simp only [World.size_alloc, World.size_setCell]; omega) hg1 (fun g hg => by simp [Value.ownBlock] at hg; simp only [World.size_setCell]; omega)
 obtain ⟨A1, c1, fp1, rfl, how1, hfr1⟩ := hr1'.own (by have := hb1.size; simp only [World.size_setCell] at this; exact this)
 clear hr1 hr1' hg1 HL0
 have hz1 := hb1.size
 simp only [World.size_alloc, World.size_setCell] at hz1
 have hw1 : Below w.heap.size w w1 := bel_trans b_10 hb1
 clear kB_0_0 fB_0_0 kB_0_1 fB_0_1 kB_0_2 fB_0_2 kB_0_3 fB_0_3 kB_0_4 fB_0_4 kR_0_0 fR_0_0 kR_0_1 fR_0_1 kR_0_2 fR_0_2 kR_0_3 fR_0_3 kR_0_4 fR_0_4 kO_0_0 fO_0_0 kO_0_1 fO_0_1 kO_0_2 fO_0_2 kO_0_3 fO_0_3 kO_0_4 fO_0_4
 have hB1 : Blk w1 (w.heap.size) 34 #[.slice As0 (List.length x.1) cs0, .slice As1 (List.length x.2.1) cs1, .slice As2 (List.length x.2.2.1) cs2, .int .i64 x.2.2.2.1, .int .i64 x.2.2.2.2] := (hB0.far b_34 (.slice A0 (List.length x.1) c0)).below hb1 b_29
 have hR1 : Blk w1 (w.heap.size + 1) 34 #[.slice none 0 0, .slice none 0 0, .slice none 0 0, .int .i64 0, .int .i64 0] := (hR0.far b_34 (.slice A0 (List.length x.1) c0)).below hb1 b_29
 have hO1 : Blk w1 (w.heap.size + 1 + 1) 34 #[.slice A0 (List.length x.1) c0, .slice As1 (List.length x.2.1) cs1, .slice As2 (List.length x.2.2.1) cs2, .int .i64 x.2.2.2.1, .int .i64 x.2.2.2.2] := (hO0.set_ 0 (.slice A0 (List.length x.1) c0)).below hb1 b_29
 obtain ⟨kB_1_0, kB_1_1, kB_1_2, kB_1_3, kB_1_4, fB_1_0, fB_1_1, fB_1_2, fB_1_3, fB_1_4, zB_1⟩ := bk5 hB1
 obtain ⟨kR_1_0, kR_1_1, kR_1_2, kR_1_3, kR_1_4, fR_1_0, fR_1_1, fR_1_2, fR_1_3, fR_1_4, zR_1⟩ := bk5 hR1
 obtain ⟨kO_1_0, kO_1_1, kO_1_2, kO_1_3, kO_1_4, fO_1_0, fO_1_1, fO_1_2, fO_1_3, fO_1_4, zO_1⟩ := bk5 hO1
 go_wp2_with fail
 refine (C_spec_l4Copy _ _ x.2.2.1 (Ty.rd_below (bel_set hw1 b_34 _) sg2) b_37).mono ?_
 rintro e w2 ⟨cs2, fp2, rfl, how2, hfr2, hb2⟩
 obtain ⟨A2, c2, rfl⟩ := Ty.ow_slv how2
 have hz2 := hb2.size
 simp only [World.size_alloc, World.size_setCell] at hz2
 have hw2 : Below w.heap.size w w2 := bel_trans b_10 hb2
 clear kB_1_0 fB_1_0 kB_1_1 fB_1_1 kB_1_2 fB_1_2 kB_1_3 fB_1_3 kB_1_4 fB_1_4 kR_1_0 fR_1_0 kR_1_1 fR_1_1 kR_1_2 fR_1_2 kR_1_3 fR_1_3 kR_1_4 fR_1_4 kO_1_0 fO_1_0 kO_1_1 fO_1_1 kO_1_2 fO_1_2 kO_1_3 fO_1_3 kO_1_4 fO_1_4
 have hB2 : Blk w2 (w.heap.size) 34 #[.slice As0 (List.length x.1) cs0, .slice As1 (List.length x.2.1) cs1, .slice As2 (List.length x.2.2.1) cs2, .int .i64 x.2.2.2.1, .int .i64 x.2.2.2.2] := (hB1.far b_34 (.slice A1 (List.length x.2.1) c1)).below hb2 b_29
 have hR2 : Blk w2 (w.heap.size + 1) 34 #[.slice none 0 0, .slice none 0 0, .slice none 0 0, .int .i64 0, .int .i64 0] := (hR1.far b_34 (.slice A1 (List.length x.2.1) c1)).below hb2 b_29
 have hO2 : Blk w2 (w.heap.size + 1 + 1) 34 #[.slice A0 (List.length x.1) c0, .slice A1 (List.length x.2.1) c1, .slice As2 (List.length x.2.2.1) cs2, .int .i64 x.2.2.2.1, .int .i64 x.2.2.2.2] := (hO1.set_ 1 (.slice A1 (List.length x.2.1) c1)).below hb2 b_29
 obtain ⟨kB_2_0, kB_2_1, kB_2_2, kB_2_3, kB_2_4, fB_2_0, fB_2_1, fB_2_2, fB_2_3, fB_2_4, zB_2⟩ := bk5 hB2
 obtain ⟨kR_2_0, kR_2_1, kR_2_2, kR_2_3, kR_2_4, fR_2_0, fR_2_1, fR_2_2, fR_2_3, fR_2_4, zR_2⟩ := bk5 hR2
 obtain ⟨kO_2_0, kO_2_1, kO_2_2, kO_2_3, kO_2_4, fO_2_0, fO_2_1, fO_2_2, fO_2_3, fO_2_4, zO_2⟩ := bk5 hO2
 go_wp2
 refine bodyPost_ret (v := .agg #[.slice A0 (List.length x.1) c0, .slice A1 (List.length x.2.1) c1, .slice A2 (List.length x.2.2.1) c2, .int .i64 x.2.2.2.1, .int .i64 x.2.2.2.2]) (by simp [results, Tryz.results139, go_sem, kO_2_0, kO_2_1, kO_2_2, kO_2_3, kO_2_4, kR_2_0, kR_2_1, kR_2_2, kR_2_3, kR_2_4, fO_2_0, fO_2_1, fO_2_2, fO_2_3, fO_2_4, fR_2_0, fR_2_1, fR_2_2, fR_2_3, fR_2_4]) rfl ?_
 exact ⟨_, _, rfl, ow_Data_mk (Ty.ow_keep b_3 how0) (Ty.ow_keep (by intro b hb'; have hb'' := (hfr1).2 b hb'; (try simp only [szz] at hb''); repeat (first | (with_reducible rfl) | (rw [Below.heap_setCell _ _ _ _ b_33]) | (rw [Below.heap_alloc _ _ _ (by simp only [World.size_alloc, World.size_setCell]; omega)]) | (rw [hb2.block _ (by simp only [szz]; omega)]))) how1) (Ty.ow_keep b_13 how2) sg3 sg4, (fr3 (m1 := w0.heap.size) (m2 := w1.heap.size) (hfr0.mono b_32 (Nat.le_refl _)) (hfr1.mono b_23 (Nat.le_refl _)) (hfr2.mono b_23 b_32) b_32 b_32 b_32), bel_trans b_10 (Below.refl _ _)⟩
theorem varint_lt : ∀ (k n : Nat), n < 128 ^ (k + 1) → (varint n).length ≤ k + 1
 | 0, n, h => by rw [varint, dif_pos b_37]; simp
 | k + 1, n, h => by
  rw [varint]
  by_cases hn : n < 128
  ·rw [dif_pos hn]; simp
  ·rw [dif_neg hn, List.length_cons]
   have := varint_lt k (n / 128) (by rw [Nat.div_lt_iff_lt_mul b_36]; rw [Nat.pow_succ] at h; exact h)
   omega
theorem appendVarint_len (b : List UInt8) (n : Int) : (f_AppendVarint b n).length ≤ b.length + 6 := by
 unfold f_AppendVarint
 split
 ·rename_i h
  have := varint_lt 5 n.toNat b_37
  rw [List.length_append]; omega
 ·omega
def f_AppendBytes (b s : List UInt8) : List UInt8 := f_AppendVarint b s.length ++ s
set_option maxHeartbeats 1000000 in
theorem C_spec_AppendBytes (w : World) (v1 v2 : Value) (b s : List UInt8) (h1 : (Ty.sl .byte).rd w [v1] b) (h2 : (Ty.sl .byte).rd w [v2] s) (hb : b.length ≤ 1099511627776) (hs : s.length ≤ 1099511627776) :
  Calls Tryz.prog 181 #[v1, v2] w (RetRow flatB w 5 (f_AppendBytes b s)) := by
 obtain ⟨A2, c2, rfl, hc2, hm2, hn2⟩ := Ty.rd_sl h2
 go_enter Tryz.func181, Tryz.ntmps181
 go_wp2_with fail
 refine (C_spec_AppendVarint _ _ b (s.length : Int) h1 hb b_37).mono ?_
 rintro e w1 ⟨u1, rfl, hr1, hb1⟩
 have HR := Lib.hid hr1
 clear hr1
 have HL := Lib.hid (appendVarint_len b s.length)
 have hz := hb1.size
 set_option maxRecDepth 100000 in go_wp2_with (at_builtin; go_loud (refine wpList_append_row rfl _ _ 22 rfl flatB w.heap.size 5 infoB rfl Tryz.underlying22 _ _ (f_AppendVarint b s.length) s rfl rfl HR.out (Ty.rd_below b_10 h2) ?_ ?_ ?_ ?_))
 case refine_1 => have := HL.out; omega
 case refine_2 => have := HL.out; unfold maxLen; omega
 case refine_3 => exact hz
 case refine_4 =>
  intro v' w' hr' hg'
  have hb' : Below w.heap.size w w' := bel_grown hb1 hz hg' (fun g hg => (HR.out.block g hg).1)
  have HR' := Lib.hid hr'
  clear hr'
  go_wp2
  go_ret
  exact ⟨_, rfl, HR'.out, hb'⟩
set_option maxHeartbeats 1000000 in
theorem C_impl_AppendBytes (w : World) (v1 v2 : Value) (b s : List UInt8) (h1 : (Ty.sl .byte).rd w [v1] b) (h2 : (Ty.sl .byte).rd w [v2] s) (hb : b.length ≤ 1099511627776) (hs : s.length ≤ 1099511627776) :
  Calls Tryz.prog 180 #[v1, v2] w (RetRow flatB w 5 (f_AppendBytes b s)) := by
 obtain ⟨A2, c2, rfl, hc2, hm2, hn2⟩ := Ty.rd_sl h2
 go_enter Tryz.func180, Tryz.ntmps180
 go_wp2_with fail
 refine (C_impl_AppendVarint _ _ b (s.length : Int) h1 hb b_37).mono ?_
 rintro e w1 ⟨u1, rfl, hr1, hb1⟩
 have HR := Lib.hid hr1
 clear hr1
 have HL := Lib.hid (appendVarint_len b s.length)
 have hz := hb1.size
 set_option maxRecDepth 100000 in go_wp2_with (at_builtin; go_loud (refine wpList_append_row rfl _ _ 22 rfl flatB w.heap.size 5 infoB rfl Tryz.underlying22 _ _ (f_AppendVarint b s.length) s rfl rfl HR.out (Ty.rd_below b_10 h2) ?_ ?_ ?_ ?_))
 case refine_1 => have := HL.out; omega
 case refine_2 => have := HL.out; unfold maxLen; omega
 case refine_3 => exact hz
 case refine_4 =>
  intro v' w' hr' hg'
  have hb' : Below w.heap.size w w' := bel_grown hb1 hz hg' (fun g hg => (HR.out.block g hg).1)
  have HR' := Lib.hid hr'
  clear hr'
  go_wp2
  go_ret
  exact ⟨_, rfl, HR'.out, hb'⟩
def convW (W : World) (te : TypeId) (s : List UInt8) : World := W.drew.alloc (.cells (bytesRow ⟨s.toArray⟩ (grownCap W s.length 0 te)) te ((bytesRow ⟨s.toArray⟩ (grownCap W s.length 0 te)).size, (bytesRow ⟨s.toArray⟩ (grownCap W s.length 0 te)).size + 1))
theorem convW_bel (W : World) (te : TypeId) (s : List UInt8) : Below W.heap.size W (convW W te s) := bel_alloc (bel_drew (Below.refl _ _)) _
theorem convW_rd (W : World) (te : TypeId) (s : List UInt8) (hs : s.length ≤ 1099511627776) : (Ty.sl .byte).rd (convW W te s) [.slice (some ⟨W.heap.size, 0, none⟩) s.length (grownCap W s.length 0 te)] s := by
 refine ⟨_, _, rfl, grownCap_ge W _ _ _, ⟨grownCap_le_maxLen W _ _ _ (by unfold maxLen; omega), fun h => by cases h⟩, by show s.length ≤ _; omega, fun _ => ⟨W.heap.size, 0, rfl, fun i hi => ⟨[.int .u8 (s[i].toNat : Int)], rfl, fun j hj => ?_, rfl⟩⟩⟩
 have hj0 : j = 0 := by simp [Ty.sz] at hj; omega
 subst hj0
 have h1 := cell_of_row (convW W te s) W.heap.size (0 + i * Ty.byte.sz + 0) _ _ _ (heap_alloc_new W.drew _)
 rw [h1]
 have h2 := bytesRow_at ⟨s.toArray⟩ (grownCap W s.length 0 te) i (by simpa using hi)
 rw [show 0 + i * Ty.byte.sz + 0 = i from by simp [Ty.sz], h2]
 simp
theorem foldBytes_len : ∀ (l : List (List UInt8)) (b : List UInt8), (∀ s ∈ l, s.length ≤ 8) → (l.foldl f_AppendBytes b).length ≤ b.length + 14 * l.length
 | [], b, _ => by simp
 | s :: l, b, h => by
  have h1 := foldBytes_len l (f_AppendBytes b s) (fun t ht => h t (List.mem_cons_of_mem _ ht))
  have h2 := appendVarint_len b s.length
  have h3 := h s (List.mem_cons_self ..)
  have h4 : (f_AppendBytes b s).length = (f_AppendVarint b s.length).length + s.length := by unfold f_AppendBytes; rw [List.length_append]
  rw [List.foldl_cons, List.length_cons]; omega
theorem foldBytes_take (l : List (List UInt8)) (b : List UInt8) {k : Nat} (h : k < l.length) : (l.take (k + 1)).foldl f_AppendBytes b = f_AppendBytes ((l.take k).foldl f_AppendBytes b) l[k] := by
 rw [List.take_succ_eq_append_getElem h, List.foldl_append]; rfl
theorem validName_parts {n : List (List UInt8)} (h : validName n = true) : n.length ≤ 6 ∧ ∀ s ∈ n, s.length ≤ 8 := by
 unfold validName at h
 simp only [Bool.and_eq_true, decide_eq_true_eq, List.all_eq_true] at h
 refine ⟨h.2, fun s hs => ?_⟩
 have := h.1 s hs
 unfold validPart at this
 simp only [Bool.and_eq_true, decide_eq_true_eq] at this
 exact this.2.2
def nameBytes (b : List UInt8) (n : List (List UInt8)) : List UInt8 := n.foldl f_AppendBytes (f_AppendVarint b n.length)
def f_AppendName (b : List UInt8) (n : List (List UInt8)) : List UInt8 := if validName n then nameBytes b n else b
set_option maxHeartbeats 1000000 in
theorem C_impl_AppendName (w : World) (v1 : Value) (b : List UInt8) (cs : List Value) (n : List (List UInt8)) (h1 : (Ty.sl .byte).rd w [v1] b) (h2 : (Ty.sl .str).rd w cs n) (hb : b.length ≤ 1000000000000) :
  Calls Tryz.prog 164 #[v1, .agg cs.toArray] w (RetRow flatB w 5 (f_AppendName b n)) := by
 obtain ⟨A2, c2, rfl⟩ := Ty.rd_slv h2
 obtain ⟨_, _, _, _, _, n2⟩ := Ty.rd_sl h2
 have hconv : ∀ (W : World) (s : List UInt8), (convert 9 22 (vS s)).run Tryz.prog W = .ok (.slice (some ⟨W.heap.size, 0, none⟩) s.length (grownCap W s.length 0 5)) (convW W 5 s) := fun W s => run_bytes_of_string W _ _ _ ⟨s.toArray⟩ Tryz.underlying9 Tryz.underlying22 Tryz.underlying5
 go_enter Tryz.func164, Tryz.ntmps164
 go_wp2_with fail
 refine (C_impl_ValidName _ _ _ (Ty.rd_below b_10 h2)).mono ?_
 rintro e w1 ⟨rfl, hb1⟩
 have hw1 : Below w.heap.size w w1 := bel_trans b_10 hb1
 obtain ⟨hc1, hf1⟩ := bcell hb1
 have z1 : w.heap.size < w1.heap.size := by have := hb1.size; simp only [World.size_alloc] at this; omega
 have HF := Lib.hid (show f_AppendName b n = if validName n then nameBytes b n else b from rfl)
 cases hq : validName n
 ·rw [hq] at HF
  go_wp2_with fail
  refine (C_slices_Clone_byte _ _ b (Ty.rd_below hw1 h1) b_37).mono ?_
  rintro e w2 ⟨u2, rfl, hr2, hb2⟩
  have HR := Lib.hid (hr2.mono hw1.size)
  clear hr2
  go_wp2
  go_ret
  exact ⟨_, rfl, by rw [HF.out]; exact HR.out, bel_trans hw1 hb2⟩
 ·rw [hq] at HF
  have HV := Lib.hid (validName_parts hq)
  have hl6 := HV.out.1
  go_wp2_with fail
  refine (C_impl_AppendVarint _ _ b (n.length : Int) (Ty.rd_below hw1 h1) b_37 b_37).mono ?_
  rintro e w2 ⟨u2, rfl, hr2, hb2⟩
  have hw2 : Below w.heap.size w w2 := bel_trans hw1 hb2
  have HR := Lib.hid (hr2.mono hw1.size)
  clear hr2
  obtain ⟨hc2, hf2⟩ := bcell hb2
  have HL0 := Lib.hid (appendVarint_len b n.length)
  go_wp2
  go_loopw [5, 21] (fun l i wr => ∃ k : Nat, k ≤ n.length ∧ i = .int .i64 k ∧ Row flatB wr w.heap.size 5 l ((n.take k).foldl f_AppendBytes (f_AppendVarint b n.length)) ∧ Below w.heap.size w wr) (fun _ i _ => n.length - (intOf i).toNat)
  case atStart => exact ⟨0, by omega, rfl, HR.out, hw2⟩
  case round =>
   obtain ⟨k, hk, rfl, hr, hbr⟩ := hrel
   have HRr := Lib.hid hr
   clear hr
   by_cases hlt : k < n.length
   ·obtain ⟨ab, ao, rfl, e0, m0⟩ := Ty.rd_str_at (Ty.rd_below hbr h2) hlt
    have HP := Lib.hid (foldBytes_take n (f_AppendVarint b n.length) hlt)
    have HL := Lib.hid (foldBytes_len (n.take k) (f_AppendVarint b n.length) (fun s hs => HV.out.2 s (List.mem_of_mem_take hs)))
    have hp8 : n[k].length ≤ 8 := HV.out.2 _ (List.getElem_mem hlt)
    go_wp2_with fail
    refine (C_impl_AppendBytes _ _ _ ((n.take k).foldl f_AppendBytes (f_AppendVarint b n.length)) n[k] ((HRr.out.below (convW_bel wr _ _)).rd (Nat.le_trans hbr.size (convW_bel wr _ _).size)) (convW_rd wr 5 n[k] b_37) (by have h3 := HL.out; have h4 := HL0.out; rw [List.length_take] at h3; omega) b_37).mono ?_
    rintro e w3 ⟨u3, rfl, hr3, hb3⟩
    have hb3' := bel_trans (convW_bel wr _ _) hb3
    have hw3 : Below w.heap.size w w3 := bel_trans hbr hb3'
    have HR3 := Lib.hid (hr3.mono (Nat.le_trans hbr.size (convW_bel wr _ _).size))
    clear hr3
    go_wp2
    go_roundw
    case rel => exact ⟨k + 1, by omega, by go_num, by rw [HP.out]; exact HR3.out, hw3⟩
    case measure => simp [intOf]; omega
   ·have HE : Hid ((n.take k).foldl f_AppendBytes (f_AppendVarint b n.length) = nameBytes b n) := by rw [List.take_of_length_le b_37]; exact rfl
    go_wp2
    go_ret
    exact ⟨_, rfl, by rw [HF.out, ← HE.out]; exact HRr.out, hbr⟩
set_option maxHeartbeats 1000000 in
theorem C_spec_AppendName (w : World) (v1 : Value) (b : List UInt8) (cs : List Value) (n : List (List UInt8)) (h1 : (Ty.sl .byte).rd w [v1] b) (h2 : (Ty.sl .str).rd w cs n) (hb : b.length ≤ 1000000000000) :
  Calls Tryz.prog 167 #[v1, .agg cs.toArray] w (RetRow flatB w 5 (f_AppendName b n)) := by
 obtain ⟨A2, c2, rfl⟩ := Ty.rd_slv h2
 obtain ⟨_, _, _, _, _, n2⟩ := Ty.rd_sl h2
 have hconv : ∀ (W : World) (s : List UInt8), (convert 9 22 (vS s)).run Tryz.prog W = .ok (.slice (some ⟨W.heap.size, 0, none⟩) s.length (grownCap W s.length 0 5)) (convW W 5 s) := fun W s => run_bytes_of_string W _ _ _ ⟨s.toArray⟩ Tryz.underlying9 Tryz.underlying22 Tryz.underlying5
 go_enter Tryz.func167, Tryz.ntmps167
 have hl0 : Row flatB ((w.alloc (.cells #[.slice A2 n.length c2] 32)).alloc (.cells #[] 5)) w.heap.size 5 (.slice (some ⟨w.heap.size + 1, 0, none⟩) 0 0) [] := by
  have := Row.lit0 flatB (w.alloc (.cells #[.slice A2 n.length c2] 32)) 5 (base := w.heap.size) b_31
  rwa [World.size_alloc] at this
 have HL00 := Lib.hid hl0
 clear hl0
 set_option maxRecDepth 100000 in go_wp2_with (at_builtin; go_loud (refine wpList_append_row rfl _ _ 22 rfl flatB w.heap.size 5 infoB rfl Tryz.underlying22 _ _ [] b rfl rfl HL00.out (Ty.rd_below b_10 h1) ?_ ?_ ?_ ?_))
 case refine_1 => simp only [List.length_nil]; omega
 case refine_2 => simp only [List.length_nil]; unfold maxLen; omega
 case refine_3 => simp only [World.size_alloc]; omega
 intro v0 w0 hr0 hg0
 have hb0 : Below w.heap.size w w0 := bel_grown b_10 b_32 hg0 (fun g hg => by simp [Value.ownBlock] at hg; omega)
 have hcl0 : w0.cell? ⟨w.heap.size, 0, none⟩ = some (.slice A2 n.length c2) := hg0.cell (by rw [World.cell?_alloc_lt _ _ _ b_30]; exact cell_new w _ _ 0 rfl) (by simp [Value.ownBlock])
 have z0 : w.heap.size < w0.heap.size := World.block_lt_of_cell? w0 _ hcl0
 have HR0 := Lib.hid hr0
 clear hr0
 go_wp2_with fail
 refine (C_spec_ValidName _ _ _ (Ty.rd_below hb0 h2)).mono ?_
 rintro e w1 ⟨rfl, hb1⟩
 have hw1 : Below w.heap.size w w1 := bel_trans hb0 hb1
 obtain ⟨hc1, hf1⟩ := bcell hb1
 have z1 : w.heap.size < w1.heap.size := Nat.lt_of_lt_of_le z0 hb1.size
 have HR1 := Lib.hid (HR0.out.below hb1)
 have HF := Lib.hid (show f_AppendName b n = if validName n then nameBytes b n else b from rfl)
 cases hq : validName n
 ·rw [hq] at HF
  go_wp2
  go_ret
  exact ⟨_, rfl, by rw [HF.out]; exact HR1.out, hw1⟩
 ·rw [hq] at HF
  have HV := Lib.hid (validName_parts hq)
  have hl6 := HV.out.1
  go_wp2_with fail
  refine (C_spec_AppendVarint _ _ b (n.length : Int) (HR1.out.rd hw1.size) b_37 b_37).mono ?_
  rintro e w2 ⟨u2, rfl, hr2, hb2⟩
  have hw2 : Below w.heap.size w w2 := bel_trans hw1 hb2
  have HR := Lib.hid (hr2.mono hw1.size)
  clear hr2
  have hcl2 : w2.cell? ⟨w.heap.size, 0, none⟩ = some (.slice A2 n.length c2) := (hb2.cell (p := ⟨w.heap.size, 0, none⟩) z1).trans ((hb1.cell (p := ⟨w.heap.size, 0, none⟩) z0).trans hcl0)
  have HL0 := Lib.hid (appendVarint_len b n.length)
  go_wp2
  go_loopw [5, 6] (fun l i wr => ∃ k : Nat, k ≤ n.length ∧ i = .int .i64 k ∧ Row flatB wr w.heap.size 5 l ((n.take k).foldl f_AppendBytes (f_AppendVarint b n.length)) ∧ Below w.heap.size w wr ∧ wr.cell? ⟨w.heap.size, 0, none⟩ = some (.slice A2 n.length c2)) (fun _ i _ => n.length - (intOf i).toNat)
  case atStart => exact ⟨0, by omega, rfl, HR.out, hw2, hcl2⟩
  case round =>
   obtain ⟨k, hk, rfl, hr, hbr, hcr⟩ := hrel
   have zr : w.heap.size < wr.heap.size := World.block_lt_of_cell? wr _ hcr
   have HRr := Lib.hid hr
   clear hr
   have hclr := hcr
   by_cases hlt : k < n.length
   ·obtain ⟨ab, ao, rfl, e0, m0⟩ := Ty.rd_str_at (Ty.rd_below hbr h2) hlt
    have HP := Lib.hid (foldBytes_take n (f_AppendVarint b n.length) hlt)
    have HL := Lib.hid (foldBytes_len (n.take k) (f_AppendVarint b n.length) (fun s hs => HV.out.2 s (List.mem_of_mem_take hs)))
    have hp8 : n[k].length ≤ 8 := HV.out.2 _ (List.getElem_mem hlt)
    go_wp2_with fail
    refine (C_spec_AppendBytes _ _ _ ((n.take k).foldl f_AppendBytes (f_AppendVarint b n.length)) n[k] ((HRr.out.below (convW_bel wr _ _)).rd (Nat.le_trans hbr.size (convW_bel wr _ _).size)) (convW_rd wr 5 n[k] b_37) (by have h3 := HL.out; have h4 := HL0.out; rw [List.length_take] at h3; omega) b_37).mono ?_
    rintro e w3 ⟨u3, rfl, hr3, hb3⟩
    have hb3' := bel_trans (convW_bel wr _ _) hb3
    have hw3 : Below w.heap.size w w3 := bel_trans hbr hb3'
    have HR3 := Lib.hid (hr3.mono (Nat.le_trans hbr.size (convW_bel wr _ _).size))
    clear hr3
    go_wp2
    go_roundw
    case rel => exact ⟨k + 1, by omega, by go_num, by rw [HP.out]; exact HR3.out, hw3, (hb3'.cell (p := ⟨w.heap.size, 0, none⟩) zr).trans hclr⟩
    case measure => simp [intOf]; omega
   ·have HE : Hid ((n.take k).foldl f_AppendBytes (f_AppendVarint b n.length) = nameBytes b n) := by rw [List.take_of_length_le b_37]; exact rfl
    go_wp2
    go_ret
    exact ⟨_, rfl, by rw [HF.out, ← HE.out]; exact HRr.out, hbr⟩
def mac (s : Int) (l : List Int) : Int := digest (s :: (l ++ [s]))
set_option maxHeartbeats 400000 in
theorem C_spec_ValidSecret (w : World) (n : Int) : Calls Tryz.prog 104 #[.int .i64 n] w (RetBP w (inR n 1 2147483646)) := by
 go_enter Tryz.func104, Tryz.ntmps104
 go_wp2_with fail
 refine (C_spec_l1In _ _ _ _).mono ?_
 rintro e w1 ⟨rfl, rfl⟩
 go_wp2
 go_ret
 exact ⟨rfl, rfl⟩
set_option maxHeartbeats 400000 in
theorem C_impl_ValidSecret (w : World) (n : Int) : Calls Tryz.prog 102 #[.int .i64 n] w (RetBP w (inR n 1 2147483646)) := by
 go_enter Tryz.func102, Tryz.ntmps102
 go_wp2_with fail
 refine (C_impl_InRange _ _ _ _).mono ?_
 rintro e w1 ⟨rfl, rfl⟩
 go_wp2
 go_ret
 exact ⟨rfl, rfl⟩
set_option maxHeartbeats 1000000 in
theorem C_spec_ComputeMAC (w : World) (v : Value) (s : Int) (x : List Int) (hs : -9223372036854775808 ≤ s ∧ s ≤ 9223372036854775807) (h : (Ty.sl .int).rd w [v] x) (hx : x.length ≤ 1099511627776) :
  Calls Tryz.prog 140 #[.int .i64 s, v] w (RetI w (mac s x)) := by
 obtain ⟨A, c, rfl, hc, hm, hn⟩ := Ty.rd_sl h
 have HS0 := Lib.hid (Row.lit1 flatI w 3 s (okI hs.1 hs.2) (Nat.le_refl _))
 go_enter Tryz.func140, Tryz.ntmps140
 set_option maxRecDepth 100000 in go_wp2_with (at_builtin; go_loud (refine wpList_append_row rfl _ _ 76 rfl flatI w.heap.size 3 infoI rfl Tryz.underlying76 _ _ [s] x rfl rfl HS0.out (Ty.rd_below b_10 h) ?_ ?_ ?_ ?_))
 case refine_1 => simp only [List.length_cons, List.length_nil]; omega
 case refine_2 => simp only [List.length_cons, List.length_nil]; unfold maxLen; omega
 case refine_3 => simp only [World.size_alloc]; omega
 intro v1 w1 hr1 hg1
 have hb1 : Below w.heap.size w w1 := bel_grown b_10 b_32 hg1 (fun g hg => by simp [Value.ownBlock] at hg; omega)
 have HR1 := Lib.hid hr1
 clear hr1
 have HS1 := Lib.hid (Row.lit1 flatI w1 3 s (okI hs.1 hs.2) (Nat.le_refl _))
 have hz1 := hb1.size
 set_option maxRecDepth 100000 in go_wp2_with (at_builtin; go_loud (refine wpList_append_row rfl _ _ 76 rfl flatI w.heap.size 3 infoI rfl Tryz.underlying76 _ _ ([s] ++ x) [s] rfl rfl (HR1.out.below b_10) (HS1.out.rd b_32) ?_ ?_ ?_ ?_))
 case refine_1 => simp only [List.length_append, List.length_cons, List.length_nil]; omega
 case refine_2 => simp only [List.length_append, List.length_cons, List.length_nil]; unfold maxLen; omega
 case refine_3 => simp only [World.size_alloc]; omega
 intro v2 w2 hr2 hg2
 have hb2 : Below w.heap.size w w2 := bel_grown (bel_alloc hb1 _) b_32 hg2 (fun g hg => (HR1.out.block g hg).1)
 have HR2 := Lib.hid hr2
 clear hr2
 go_wp2_with fail
 refine (C_spec_Digest _ _ (s :: (x ++ [s])) (HR2.out.rd hb2.size)).mono ?_
 rintro e w3 ⟨rfl, hb3⟩
 have hw3 : Below w.heap.size w w3 := bel_trans hb2 hb3
 go_wp2
 go_ret
 exact ⟨rfl, hw3⟩
end Go.Proofs.YtldgbnlcnlfmeaaGreat
