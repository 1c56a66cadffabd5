/- Texts of this claim, merged by a program: Drw Cpy Cpd Drf. -/
import Derived.Test.YtldgbnlcnlfmeaaQcP
import Derived.Test.YtldgbnlcnlfmeaaQc1
import Derived.Maps.AppendAt
import Derived.Test.YtldgbnlcnlfmeaaQc0
namespace Go.Proofs.Ytldgbnlcnlfmeaa
open Go.RowKit
set_option linter.unusedVariables false
set_option linter.unusedSimpArgs false
theorem Ty.ow_ones {w : World} : ∀ {t : Ty} {cs : List Value} {x : t.D} {fp : List Nat}, t.ow w cs x fp → ∀ u ∈ cs, u.oneCell' = true
 | .int, _, _, _, h => by rw [h.1.1]; intro u hu; simp at hu; subst hu; rfl
 | .byte, _, _, _, h => by rw [show _ = _ from h.1]; intro u hu; simp at hu; subst hu; rfl
 | .bool, _, _, _, h => by rw [show _ = _ from h.1]; intro u hu; simp at hu; subst hu; rfl
 | .str, _, _, _, h => by rw [h.1.1]; intro u hu; simp at hu; subst hu; rfl
 | .sl _, _, _, _, ⟨_, _, h, _⟩ => by rw [h]; intro u hu; simp at hu; subst hu; rfl
 | .pr a b, _, _, _, ⟨c1, c2, _, _, h, _, h1, h2⟩ => by
  rw [h]; intro u hu
  rcases List.mem_append.1 hu with hu | hu
  ·exact Ty.ow_ones h1 u hu
  ·exact Ty.ow_ones h2 u hu
def Ty.flat : Ty → Bool
 | .sl _ => false
 | .pr a b => a.flat && b.flat
 | _ => true
theorem Ty.rd_ow_flat {w : World} : ∀ {t : Ty} {cs : List Value} {x : t.D}, t.flat = true → t.rd w cs x → t.ow w cs x []
 | .int, _, _, _, h => ⟨h, rfl⟩
 | .byte, _, _, _, h => ⟨h, rfl⟩
 | .bool, _, _, _, h => ⟨h, rfl⟩
 | .str, _, _, _, h => ⟨h, rfl⟩
 | .sl _, _, _, hf, _ => by simp [Ty.flat] at hf
 | .pr a b, _, _, hf, ⟨c1, c2, h, h1, h2⟩ => by
  simp only [Ty.flat, Bool.and_eq_true] at hf
  exact ⟨c1, c2, [], [], h, rfl, Ty.rd_ow_flat hf.1 h1, Ty.rd_ow_flat hf.2 h2⟩
theorem fmr_congr {α : Type} {f g : Nat → List α} : ∀ {n : Nat}, (∀ i, i < n → f i = g i) → (List.range n).flatMap f = (List.range n).flatMap g
 | 0, _ => rfl
 | n + 1, h => by
  rw [List.range_succ, List.flatMap_append, List.flatMap_append, fmr_congr (n := n) (fun i hi => h i b_34)]
  simp [h n b_34]
theorem fmr_len {α : Type} (css : Nat → List α) (sz : Nat) : ∀ n, (∀ i, i < n → (css i).length = sz) → ((List.range n).flatMap css).length = n * sz
 | 0, _ => by simp
 | n + 1, h => by
  rw [List.range_succ, List.flatMap_append, List.length_append, fmr_len css sz n (fun i hi => h i b_34), Nat.succ_mul]
  simp [h n b_34]
theorem fmr_get {α : Type} (css : Nat → List α) (sz : Nat) : ∀ n, (∀ i, i < n → (css i).length = sz) → ∀ i j, i < n → j < sz → ((List.range n).flatMap css)[i * sz + j]? = (css i)[j]?
 | 0, _, _, _, h, _ => by omega
 | n + 1, h, i, j, hi, hj => by
  have hl := fmr_len css sz n (fun i hi => h i b_34)
  rw [List.range_succ, List.flatMap_append]
  by_cases hin : i < n
  ·have h2 : (i + 1) * sz ≤ n * sz := Nat.mul_le_mul_right _ b_34
   rw [Nat.succ_mul] at h2
   rw [List.getElem?_append_left (by rw [hl]; omega)]
   exact fmr_get css sz n (fun i hi => h i b_34) i j hin hj
  ·obtain rfl : i = n := by omega
   rw [List.getElem?_append_right (by rw [hl]; omega), hl, Nat.add_sub_cancel_left]
   simp
def glue {α : Type} (n : Nat) (f g : Nat → α) : Nat → α := fun i => if i < n then f i else g (i - n)
theorem glue_lt {α : Type} {n : Nat} {f g : Nat → α} {i : Nat} (h : i < n) : glue n f g i = f i := if_pos h
theorem glue_ge {α : Type} {n : Nat} {f g : Nat → α} (i : Nat) : glue n f g (n + i) = g i := by
 unfold glue; rw [if_neg b_34, Nat.add_sub_cancel_left]
theorem fmr_glue {α : Type} (n : Nat) (f g : Nat → List α) : ∀ m, (List.range (n + m)).flatMap (glue n f g) = (List.range n).flatMap f ++ (List.range m).flatMap g
 | 0 => by
  rw [Nat.add_zero, fmr_congr (fun i hi => glue_lt hi)]; simp
 | m + 1 => by
  rw [← Nat.add_assoc, List.range_succ, List.flatMap_append, fmr_glue n f g m, List.range_succ (n := m), List.flatMap_append, List.append_assoc]
  simp [glue_ge]
def Src (e : Ty) (w : World) (lo : Nat) (u : Value) (y : List e.D) : Prop :=
 ∃ A c fs, u = .slice A y.length c ∧ FrI lo w.heap.size ((List.range y.length).flatMap fs) ∧
  (0 < y.length → ∃ b o, A = some ⟨b, o, none⟩ ∧ ∀ i (h : i < y.length), ∃ ds : List Value, ds.length = e.sz ∧ (∀ j, j < e.sz → w.cell? ⟨b, o + i * e.sz + j, none⟩ = ds[j]?) ∧ e.ow w ds y[i] (fs i))
theorem Src.flat {e : Ty} {w : World} {u : Value} {y : List e.D} (hf : e.flat = true) (h : (Ty.sl e).rd w [u] y) (lo : Nat) : Src e w lo u y := by
 obtain ⟨A, c, hu, _, _, _, hc⟩ := h
 injection hu with hu _
 refine ⟨A, c, fun _ => [], hu, ?_, fun h0 => ?_⟩
 ·rw [List.flatMap_eq_nil_iff.2 (fun _ _ => rfl)]; exact FrI.nil _ _
 ·obtain ⟨b, o, hA, hel⟩ := hc h0
  exact ⟨b, o, hA, fun i hi => by obtain ⟨ds, h1, h2, h3⟩ := hel i hi; exact ⟨ds, h1, h2, Ty.rd_ow_flat hf h3⟩⟩
theorem Src.one {e : Ty} {w : World} {lo b o c : Nat} {ds : List Value} {d : e.D} {f : List Nat} (hc : ∀ j, j < e.sz → w.cell? ⟨b, o + j, none⟩ = ds[j]?) (how : e.ow w ds d f) (hf : FrI lo w.heap.size f) :
  Src e w lo (.slice (some ⟨b, o, none⟩) 1 c) [d] := by
 refine ⟨_, c, fun _ => f, rfl, ?_, fun _ => ⟨b, o, rfl, fun i hi => ?_⟩⟩
 ·simpa using hf
 ·have h0 : i = 0 := by simpa using hi
  subst h0
  exact ⟨ds, Ty.ow_len how, fun j hj => by rw [Nat.zero_mul, Nat.add_zero]; exact hc j hj, how⟩
theorem Src.lit {e : Ty} {w : World} {lo c : Nat} (te : TypeId) {ds : List Value} {d : e.D} {f : List Nat} (how : e.ow w ds d f) (hf : FrI lo w.heap.size f) :
  Src e (w.alloc (.cells ds.toArray te)) lo (.slice (some ⟨w.heap.size, 0, none⟩) 1 c) [d] :=
 Src.one (fun j hj => by rw [Nat.zero_add]; exact (cell_new w te ds.toArray j rfl).trans (by simp)) (Ty.ow_bel ((Below.refl _ _).alloc (Nat.le_refl _) _) how) (hf.mono (Nat.le_refl _) (by rw [World.size_alloc]; omega))
theorem Src.litE {e : Ty} {w : World} {lo c g : Nat} (te : TypeId) {ds : List Value} {d : e.D} {f : List Nat} (how : e.ow w ds d f) (hf : FrI lo w.heap.size f) (hg : g = w.heap.size) :
  Src e (w.alloc (.cells ds.toArray te)) lo (.slice (some ⟨g, 0, none⟩) 1 c) [d] := by subst hg; exact Src.lit te how hf
theorem Src.drew {e : Ty} {w : World} {lo : Nat} {u : Value} {y : List e.D} (h : Src e w lo u y) : Src e w.drew lo u y := by
 obtain ⟨A, c, fs, h1, h2, h3⟩ := h
 refine ⟨A, c, fs, h1, h2, fun h0 => ?_⟩
 obtain ⟨b, o, h4, h5⟩ := h3 h0
 exact ⟨b, o, h4, fun i hi => by obtain ⟨ds, g1, g2, g3⟩ := h5 i hi; exact ⟨ds, g1, g2, Ty.ow_bel (bel_drew (Below.refl _ _)) g3⟩⟩
def DRow (e : Ty) (w : World) (base : Nat) (te : TypeId) (v : Value) (x : List e.D) : Prop :=
 ∃ (css : Nat → List Value) (fs : Nat → List Nat), w.ownsRow base te e.sz v x.length ((List.range x.length).flatMap css) ∧
  (∀ i (h : i < x.length), (css i).length = e.sz ∧ e.ow w (css i) x[i] (fs i)) ∧
  FrI base w.heap.size ((List.range x.length).flatMap fs) ∧ (∀ g, v.ownBlock = some g → g ∉ (List.range x.length).flatMap fs)
theorem DRow.nil (e : Ty) (w : World) (base : Nat) (te : TypeId) : DRow e w base te (.slice none 0 0) [] :=
 ⟨fun _ => [], fun _ => [], World.ownsRow_nil w base te e.sz, fun i h => absurd h (by simp), FrI.nil _ _, fun g h => by cases h⟩
theorem DRow.lit0 (e : Ty) (w : World) (te : TypeId) {base : Nat} (hb : base ≤ w.heap.size) : DRow e (w.alloc (.cells #[] te)) base te (.slice (some ⟨w.heap.size, 0, none⟩) 0 0) [] :=
 ⟨fun _ => [], fun _ => [], World.ownsRow_lit w #[] 0 hb (by unfold maxLen; omega) (by simp), fun i h => absurd h (by simp), FrI.nil _ _, fun g h => by simp⟩
section
variable {e : Ty} {w w' : World} {base : Nat} {te : TypeId} {v : Value} {x : List e.D}
theorem DRow.block (h : DRow e w base te v x) : ∀ g, v.ownBlock = some g → base ≤ g ∧ g < w.heap.size := by
 obtain ⟨css, fs, h, _⟩ := h
 exact h.lt
theorem DRow.below (h : DRow e w base te v x) (hb : Below w.heap.size w w') : DRow e w' base te v x := by
 obtain ⟨css, fs, h1, h2, h3, h4⟩ := h
 refine ⟨css, fs, ⟨h1.1, ?_⟩, fun i hi => ⟨(h2 i hi).1, Ty.ow_bel hb (h2 i hi).2⟩, h3.mono (Nat.le_refl _) hb.size, h4⟩
 rcases h1.2 with hn | ⟨g, cap, cur, rfl, hbg, hgg, rest⟩
 ·exact .inl hn
 ·exact .inr ⟨g, cap, cur, rfl, hbg, (hb.block g (Blk.lt (t := te) (cs := cur) hgg)).trans hgg, rest⟩
theorem DRow.mono {base' : Nat} (h : DRow e w base te v x) (hb : base' ≤ base) : DRow e w base' te v x := by
 obtain ⟨css, fs, h1, h2, h3, h4⟩ := h
 refine ⟨css, fs, ⟨h1.1, ?_⟩, h2, h3.mono hb (Nat.le_refl _), h4⟩
 rcases h1.2 with hn | ⟨g, cap, cur, rfl, hbg, hgg, rest⟩
 ·exact .inl hn
 ·exact .inr ⟨g, cap, cur, rfl, Nat.le_trans hb hbg, hgg, rest⟩
theorem DRow.le (h : DRow e w base te v x) : x.length ≤ maxLen := by
 obtain ⟨css, fs, h, _⟩ := h
 rcases h.2 with ⟨_, hn⟩ | ⟨g, cap, cur, _, _, _, h1, h2, _⟩
 ·rw [hn]; exact Nat.zero_le _
 ·exact Nat.le_trans h1 h2
theorem DRow.own (h : DRow e w base te v x) : ∃ A c fp, v = .slice A x.length c ∧ (Ty.sl e).ow w [v] x fp ∧ FrI base w.heap.size fp := by
 have hl := h.le
 unfold maxLen at hl
 obtain ⟨css, fs, h1, h2, h3, h4⟩ := h
 rcases h1.2 with ⟨rfl, hn⟩ | ⟨g, cap, cur, rfl, hbg, hg, hnc, hcm, hcs, htake⟩
 ·have hx : x = [] := List.eq_nil_of_length_eq_zero hn
  subst hx
  exact ⟨none, 0, [], rfl, ⟨none, 0, rfl, by simp, ⟨by unfold maxLen; omega, fun _ => rfl⟩, by simp, .inl ⟨rfl, rfl⟩⟩, FrI.nil _ _⟩
 ·have hlt : g < w.heap.size := Blk.lt (t := te) (cs := cur) hg
  by_cases h0 : x.length = 0
  ·exact ⟨_, _, [], rfl, ⟨_, _, rfl, hnc, ⟨hcm, fun h => by cases h⟩, by omega, .inl ⟨h0, rfl⟩⟩, FrI.nil _ _⟩
  ·have hg4 := h4 g rfl
   refine ⟨_, _, g :: (List.range x.length).flatMap fs, rfl, ⟨_, _, rfl, hnc, ⟨hcm, fun h => by cases h⟩, by omega, .inr ⟨by show 0 < x.length; omega, g, 0, fs, rfl, rfl, fun i hi => ?_⟩⟩, ?_⟩
   ·refine ⟨css i, (h2 i hi).1, fun j hj => ⟨?_, ?_⟩, (h2 i hi).2⟩
    ·have h5 : (i + 1) * e.sz ≤ x.length * e.sz := Nat.mul_le_mul_right _ hi
     rw [Nat.succ_mul] at h5
     rw [Nat.zero_add, h1.cellAt (i * e.sz + j) b_34]
     exact fmr_get css e.sz x.length (fun i hi => (h2 i hi).1) i j hi hj
    ·exact Blk.frozen (t := te) (cs := cur) hg _
   ·refine ⟨List.nodup_cons.2 ⟨hg4, h3.1⟩, fun b hb' => ?_⟩
    rcases List.mem_cons.1 hb' with rfl | hb'
    ·exact ⟨hbg, hlt⟩
    ·exact h3.2 b hb'
theorem DRow.rd (h : DRow e w base te v x) : (Ty.sl e).rd w [v] x := by
 obtain ⟨A, c, fp, _, how, _⟩ := h.own
 exact Ty.ow_rd how
theorem DRow.form (h : DRow e w base te v x) : ∃ A c, v = .slice A x.length c := by
 obtain ⟨A, c, fp, hv, _⟩ := h.own
 exact ⟨A, c, hv⟩
end
theorem ownsRow_below {w w' : World} {base : Nat} {te : TypeId} {sz : Nat} {v : Value} {n : Nat} {xs : List Value} (h1 : w.ownsRow base te sz v n xs) (hb : Below w.heap.size w w') : w'.ownsRow base te sz v n xs := by
 refine ⟨h1.1, ?_⟩
 rcases h1.2 with hn | ⟨g, cap, cur, rfl, hbg, hgg, rest⟩
 ·exact .inl hn
 ·exact .inr ⟨g, cap, cur, rfl, hbg, (hb.block g (Blk.lt (t := te) (cs := cur) hgg)).trans hgg, rest⟩
theorem run_append_drow {P : Program} {w0 w : World} {e : Ty} (base : Nat) (t ty te : TypeId) {z : Value} {by_ : Nat} (hinfo : (P.info? te).map (fun i => (i.zero, i.size, i.bytes)) = some (some z, e.sz, by_)) (hz1 : z.cells.size = e.sz) (ht : P.underlying t = some (.slice te))
  (v u : Value) (x y : List e.D) (hown : DRow e w0 base te v x) (hbel : Below w0.heap.size w0 w) (hy : Src e w w0.heap.size u y) (hbytes : (x.length + y.length) * by_ ≤ 140737488355328) (hlen : x.length + y.length ≤ maxLen) (hbase : base ≤ w0.heap.size) :
  ∃ v' w', (Builtin.append_ #[t, t] ty #[v, u]).run P w = .ok v' w' ∧ DRow e w' base te v' (x ++ y) ∧ w.grownBy w' v.ownBlock := by
 obtain ⟨i, hi, hzz⟩ := Option.map_eq_some_iff.1 hinfo
 simp only [Prod.mk.injEq] at hzz
 obtain ⟨hz, hsz, hby⟩ := hzz
 have hlt0 := hown.block
 obtain ⟨css, fs, h1, h2, h3, h4⟩ := hown
 have h1' := ownsRow_below h1 hbel
 obtain ⟨A, c, fs', rfl, hfr', hel⟩ := hy
 by_cases h0 : y.length = 0
 ·have hy0 : y = [] := List.eq_nil_of_length_eq_zero h0
  subst hy0
  refine ⟨v, w, run_append_zero base t ty te i e.sz ht hi v _ _ h1' A c, ?_, World.grownBy.refl _ _⟩
  rw [List.append_nil]
  exact DRow.below ⟨css, fs, h1, h2, h3, h4⟩ hbel
 ·obtain ⟨b, o, rfl, hel2⟩ := hel b_34
  have hpos := Ty.sz_pos e
  have hds : ∃ dss : Nat → List Value, ∀ i (h : i < y.length), (dss i).length = e.sz ∧ (∀ j, j < e.sz → w.cell? ⟨b, o + i * e.sz + j, none⟩ = (dss i)[j]?) ∧ e.ow w (dss i) y[i] (fs' i) := by
   refine ⟨fun i => if h : i < y.length then (hel2 i h).choose else [], fun i h => ?_⟩
   simp only [dif_pos h]
   exact (hel2 i h).choose_spec
  obtain ⟨dss, hd⟩ := hds
  have hl : ((List.range y.length).flatMap dss).length = y.length * e.sz := fmr_len dss e.sz y.length (fun i hi => (hd i hi).1)
  have hcells : ∀ j u, ((List.range y.length).flatMap dss)[j]? = some u → w.cell? ((⟨b, o, none⟩ : Addr).add j) = some u := by
   intro j u hj
   have hjl : j < y.length * e.sz := by rw [← hl]; exact (List.getElem?_eq_some_iff.1 hj).1
   have hdiv : j / e.sz < y.length := (Nat.div_lt_iff_lt_mul hpos).2 hjl
   have hmod : j % e.sz < e.sz := Nat.mod_lt _ hpos
   have hjj : j / e.sz * e.sz + j % e.sz = j := by rw [Nat.mul_comm]; exact Nat.div_add_mod j e.sz
   have h5 := (hd _ hdiv).2.1 _ hmod
   have h6 := fmr_get dss e.sz y.length (fun i hi => (hd i hi).1) _ _ hdiv hmod
   rw [hjj, hj] at h6
   rw [Addr.add_lit, show o + j = o + j / e.sz * e.sz + j % e.sz from by omega, h5, ← h6]
  have hones : ∀ u ∈ (List.range y.length).flatMap dss, u.oneCell' = true := by
   intro u hu
   obtain ⟨k, hk, hu⟩ := List.mem_flatMap.1 hu
   exact Ty.ow_ones (hd k (List.mem_range.1 hk)).2.2 u hu
  obtain ⟨v', w', hr, g1, g2, _, g3⟩ := run_append_own_at (P := P) w base t ty te i z e.sz by_ ht hi hz hsz hby hz1 hpos v x.length _ h1' ⟨b, o, none⟩ y.length c ((List.range y.length).flatMap dss) hl hcells hones hlen hbytes (Nat.le_trans hbase hbel.size)
  refine ⟨v', w', hr, ⟨glue x.length css dss, glue x.length fs fs', ?_, ?_, ?_, ?_⟩, g2⟩
  ·rw [List.length_append, fmr_glue]; exact g1
  ·intro k hk
   by_cases hkx : k < x.length
   ·rw [glue_lt hkx, glue_lt hkx, List.getElem_append_left hkx]
    refine ⟨(h2 k hkx).1, Ty.ow_keep (fun b' hb' => ?_) (h2 k hkx).2⟩
    have hm : b' ∈ (List.range x.length).flatMap fs := List.mem_flatMap.2 ⟨k, List.mem_range.2 hkx, hb'⟩
    have h5 := h3.2 b' hm
    exact (g2.block b' (Nat.lt_of_lt_of_le h5.2 hbel.size) (fun e' => h4 b' e'.symm hm)).trans (hbel.block b' h5.2)
   ·obtain ⟨m, rfl⟩ : ∃ m, k = x.length + m := ⟨k - x.length, by omega⟩
    have hm : m < y.length := by rw [List.length_append] at hk; omega
    rw [glue_ge, glue_ge, List.getElem_append_right b_34]
    simp only [Nat.add_sub_cancel_left]
    refine ⟨(hd m hm).1, Ty.ow_keep (fun b' hb' => ?_) (hd m hm).2.2⟩
    have hm' : b' ∈ (List.range y.length).flatMap fs' := List.mem_flatMap.2 ⟨m, List.mem_range.2 hm, hb'⟩
    have h5 := hfr'.2 b' hm'
    exact g2.block b' h5.2 (fun e' => by have := hlt0 b' e'.symm; omega)
  ·rw [List.length_append, fmr_glue]
   exact FrI.app h3 (hfr'.mono (Nat.le_refl _) g2.size) (Nat.le_refl _) hbase (Nat.le_trans hbel.size g2.size)
  ·intro g hg hmem
   rw [List.length_append, fmr_glue] at hmem
   have hs := hbel.size
   rcases g3 with g3 | g3
   ·rw [g3] at hg
    have := hlt0 g hg
    rcases List.mem_append.1 hmem with hm | hm
    ·exact h4 g hg hm
    ·have := hfr'.2 g hm; omega
   ·rw [g3] at hg
    have hg' : w.heap.size = g := by simpa using hg
    rcases List.mem_append.1 hmem with hm | hm
    ·have := h3.2 g hm; omega
    ·have := hfr'.2 g hm; omega
theorem wpList_append_drow {P : Program} {w : World} {ops : Array Oper} {rest : List Oper} {o : Oper} {a : Act} {Q : Exit → Act → World → Prop} (hgd : o.guard = none) (s xo : Operand) (t : TypeId)
  (ho : o.op = .call { callee := .builtin .append, args := #[s, xo], argTypes := #[t, t] }) {e : Ty} (w0 : World) (base : Nat) (te : TypeId) {z : Value} {by_ : Nat}
  (hinfo : (P.info? te).map (fun i => (i.zero, i.size, i.bytes)) = some (some z, e.sz, by_)) (hz1 : z.cells.size = e.sz) (ht : P.underlying t = some (.slice te))
  (v u : Value) (x y : List e.D) (hs : a.eval s = v) (hx : a.eval xo = u) (hown : DRow e w0 base te v x) (hbel : Below w0.heap.size w0 w) (hy : Src e w w0.heap.size u y) (hbytes : (x.length + y.length) * by_ ≤ 140737488355328) (hlen : x.length + y.length ≤ maxLen) (hbase : base ≤ w0.heap.size)
  (h : ∀ v' w', DRow e w' base te v' (x ++ y) → w.grownBy w' v.ownBlock → wpList P ops Q rest (a.put o.dst v') w') : wpList P ops Q (o :: rest) a w := by
 obtain ⟨v', w', hr, h2, h3⟩ := run_append_drow (P := P) base t o.type te hinfo hz1 ht v u x y hown hbel hy hbytes hlen hbase
 refine wpList_plain hgd fun K hK => ?_
 unfold Oper.wp execOp
 simp only [ho, resolve, invoke, builtin, Sem.run_bind, Sem.run_pure, Result.andThen_ok, List.map_toArray, List.map_cons, List.map_nil, hs, hx, hr]
 exact hK _ _ (h v' w' h2 h3)
theorem step_append_drow {P : Program} {w : World} {ops : Array Oper} {o : Oper} {a : Act} {K : Act → World → Prop} {Q : Exit → Act → World → Prop} {E : Prop} (hgd : o.guard = none) (s xo : Operand) (t : TypeId)
  (ho : o.op = .call { callee := .builtin .append, args := #[s, xo], argTypes := #[t, t] }) {e : Ty} (w0 : World) (base : Nat) (te : TypeId) {z : Value} {by_ : Nat}
  (hinfo : (P.info? te).map (fun i => (i.zero, i.size, i.bytes)) = some (some z, e.sz, by_)) (hz1 : z.cells.size = e.sz) (ht : P.underlying t = some (.slice te))
  (v u : Value) (x y : List e.D) (hs : a.eval s = v) (hx : a.eval xo = u) (hown : DRow e w0 base te v x) (hbel : Below w0.heap.size w0 w) (hy : Src e w w0.heap.size u y) (hbytes : (x.length + y.length) * by_ ≤ 140737488355328) (hlen : x.length + y.length ≤ maxLen) (hbase : base ≤ w0.heap.size)
  (h : ∀ v' w', DRow e w' base te v' (x ++ y) → w.grownBy w' v.ownBlock → K (a.put o.dst v') w') :
  if Region.wanted o (yielded ops a.tmps) = true then Oper.wp P o a w K Q else E := by
 have hw : Region.wanted o (yielded ops a.tmps) = true := by simp [Region.wanted, hgd]
 rw [if_pos hw]
 obtain ⟨v', w', hr, h2, h3⟩ := run_append_drow (P := P) base t o.type te hinfo hz1 ht v u x y hown hbel hy hbytes hlen hbase
 unfold Oper.wp execOp
 simp only [ho, resolve, invoke, builtin, Sem.run_bind, Sem.run_pure, Result.andThen_ok, List.map_toArray, List.map_cons, List.map_nil, hs, hx, hr]
 exact h v' w' h2 h3
def RetDRow (e : Ty) (w : World) (te : TypeId) (x : List e.D) (r : Ending) (w' : World) : Prop :=
 ∃ v, r = .returned v ∧ DRow e w' w.heap.size te v x ∧ Below w.heap.size w w'
theorem RetDRow.sl {e : Ty} {w : World} {te : TypeId} {x : List e.D} {r : Ending} {w' : World} (h : RetDRow e w te x r w') : RetSl w e x r w' := by
 obtain ⟨v, rfl, hr, hb⟩ := h
 obtain ⟨A, c, fp, rfl, how, hfr⟩ := hr.own
 exact ⟨A, c, fp, rfl, how, hfr, hb⟩
end Go.Proofs.Ytldgbnlcnlfmeaa
namespace Go.Proofs.Ytldgbnlcnlfmeaa
open Go.RowKit
set_option linter.unusedVariables false
set_option linter.unusedSimpArgs false
set_option maxHeartbeats 1000000 in
theorem C_slices_Clone_str (w : World) (v : Value) (x : List (List UInt8)) (h : (Ty.sl .str).rd w [v] x) (hx : x.length ≤ 1099511627776) : Calls Try.prog 142 #[v] w (RetRow flatS w 9 x) := by
 obtain ⟨A, c, rfl, hc, hm, hn⟩ := Ty.rd_sl h
 cases A with
 | none =>
  obtain ⟨rfl, rfl⟩ := Ty.rd_nil h
  show Calls Try.prog 142 #[.slice none 0 0] w _
  clear h hx hc hm hn
  have q22 : ∀ (w : World) (a : Option Addr) (n c n' c' : Nat), (binOp .eql 25 (.slice a n c) (.slice none n' c')).run Try.prog w = .ok (.bool a.isNone) w := fun w a n c n' c' => Lib.run_eql_slice_nil w _ _ a n c n' c' Try.underlying25
  go_enter Try.func142, Try.ntmps142
  go_wp2
  go_ret
  exact ⟨_, rfl, Row.nil _ _ _ _, Below.refl _ _⟩
 | some a =>
  have q22 : ∀ (w : World) (a : Option Addr) (n c n' c' : Nat), (binOp .eql 25 (.slice a n c) (.slice none n' c')).run Try.prog w = .ok (.bool a.isNone) w := fun w a n c n' c' => Lib.run_eql_slice_nil w _ _ a n c n' c' Try.underlying25
  go_enter Try.func142, Try.ntmps142
  set_option maxRecDepth 100000 in go_wp2_with (at_builtin; go_loud (refine wpList_append_row rfl _ _ 25 rfl flatS w.heap.size 9 info_str rfl Try.underlying25 _ _ [] x rfl rfl (Row.lit0 flatS w 9 (Nat.le_refl _)) (Ty.rd_below b_6 h) ?_ ?_ ?_ ?_))
  case refine_1 => simp only [List.length_nil]; omega
  case refine_2 => simp only [List.length_nil]; unfold maxLen; omega
  case refine_3 => simp only [World.size_alloc]; omega
  case refine_4 =>
   intro v' w' hr' hg'
   have hb' : Below w.heap.size w w' := bel_grown b_6 b_27 hg' (fun g hg => by simp [Value.ownBlock] at hg; omega)
   have HR' := Lib.hid hr'
   clear hr'
   go_wp2
   go_ret
   exact ⟨_, rfl, HR'.out, hb'⟩
set_option maxHeartbeats 1000000 in
theorem C_impl_copyName (w : World) (cs : List Value) (x : List (List UInt8)) (h : (Ty.sl .str).rd w cs x) (hx : x.length ≤ 1000000000000) :
  Calls Try.prog 71 #[.agg cs.toArray] w (RetAgg w (.sl .str) x) := by
 obtain ⟨A0, c0, rfl⟩ := Ty.rd_slv h
 go_enter Try.func71, Try.ntmps71
 go_wp2_with fail
 refine (C_slices_Clone_str _ _ x (Ty.rd_below b_6 h) b_34).mono ?_
 rintro e w1 ⟨v1, rfl, hr1, hb1⟩
 obtain ⟨A1, c1, fp1, rfl, how1, hfr1⟩ := hr1.own hb1.size
 have hw1 : Below w.heap.size w w1 := bel_trans b_6 hb1
 obtain ⟨hc1, hf1⟩ := bcell hb1
 have hz1 := hb1.size
 simp only [World.size_alloc] at hz1 hfr1
 have z0 : w.heap.size < w1.heap.size := by omega
 have z1 : w.heap.size + 1 < w1.heap.size := by omega
 clear hr1
 go_wp2
 refine bodyPost_ret (v := .agg #[.slice A1 (List.length x) c1]) (by simp [results, Try.results71, go_sem, hc1, hf1, z0, z1]) rfl ?_
 exact ⟨_, fp1, rfl, Ty.ow_keep (by intro b hb'; have hb'' := (hfr1).2 b hb'; (try simp only [szz] at hb''); repeat (first | (with_reducible rfl) | (rw [Below.heap_setCell _ _ _ _ b_29]) | (rw [Below.heap_alloc _ _ _ (by simp only [World.size_alloc, World.size_setCell]; omega)]))) how1, (hfr1.mono b_27 b_27), b_6⟩
set_option maxHeartbeats 1000000 in
theorem C_spec_l4Copy (w : World) (cs : List Value) (x : List (List UInt8)) (h : (Ty.sl .str).rd w cs x) (hx : x.length ≤ 1000000000000) :
  Calls Try.prog 73 #[.agg cs.toArray] w (RetAgg w (.sl .str) x) := by
 obtain ⟨A0, c0, rfl⟩ := Ty.rd_slv h
 have hl0 : Row flatS (((w.alloc (.cells #[.slice A0 x.length c0] 27)).alloc (.cells #[.slice none 0 0] 27)).alloc (.cells #[] 9)) (w.heap.size + 1 + 1) 9 (.slice (some ⟨w.heap.size + 1 + 1, 0, none⟩) 0 0) [] := by
  have := Row.lit0 flatS ((w.alloc (.cells #[.slice A0 x.length c0] 27)).alloc (.cells #[.slice none 0 0] 27)) 9 (base := w.heap.size + 1 + 1) b_26
  simp only [World.size_alloc] at this
  exact this
 have HL0 := Lib.hid hl0
 clear hl0
 go_enter Try.func73, Try.ntmps73
 set_option maxRecDepth 100000 in go_wp2_with (at_builtin; go_loud (refine wpList_append_row rfl _ _ 25 rfl flatS (w.heap.size + 1 + 1) 9 info_str rfl Try.underlying25 _ _ [] x rfl rfl HL0.out (Ty.rd_below b_6 h) ?_ ?_ ?_ ?_))
 case refine_1 => simp only [List.length_nil]; omega
 case refine_2 => simp only [List.length_nil]; unfold maxLen; omega
 case refine_3 => simp only [World.size_alloc]; omega
 intro v1 w1 hr1 hg1
 have hb1 : Below ((w.alloc (.cells #[.slice A0 x.length c0] 27)).alloc (.cells #[.slice none 0 0] 27)).heap.size ((w.alloc (.cells #[.slice A0 x.length c0] 27)).alloc (.cells #[.slice none 0 0] 27)) w1 := bel_grown (bel_alloc (Below.refl _ _) _) b_26 hg1 (fun g hg => by simp [Value.ownBlock] at hg; simp only [World.size_alloc]; omega)
 have hz1 := hb1.size
 simp only [World.size_alloc] at hz1
 obtain ⟨A1, c1, fp1, rfl, how1, hfr1⟩ := hr1.own b_34
 have hw1 : Below w.heap.size w w1 := bel_trans b_6 hb1
 obtain ⟨hc1, hf1⟩ := bcell hb1
 have z0 : w.heap.size < w1.heap.size := by omega
 have z1 : w.heap.size + 1 < w1.heap.size := by omega
 clear hr1
 go_wp2
 refine bodyPost_ret (v := .agg #[.slice A1 (List.length x) c1]) (by simp [results, Try.results73, go_sem, hc1, hf1, z0, z1]) rfl ?_
 exact ⟨_, fp1, rfl, Ty.ow_keep (by intro b hb'; have hb'' := (hfr1).2 b hb'; (try simp only [szz] at hb''); repeat (first | (with_reducible rfl) | (rw [Below.heap_setCell _ _ _ _ b_29]) | (rw [Below.heap_alloc _ _ _ (by simp only [World.size_alloc, World.size_setCell]; omega)]))) how1, (hfr1.mono b_27 b_27), b_6⟩
theorem data_parts {x : tData.D} {B : Nat} (s : Ty.bulk tData x ≤ B) : x.1.length ≤ B ∧ x.2.1.length ≤ B ∧ x.2.2.1.length ≤ B := by
 have h1 : Ty.bulk (.sl .str) x.1 + (Ty.bulk (.sl .byte) x.2.1 + (Ty.bulk (.sl .str) x.2.2.1 + (0 + 0))) ≤ B := s
 exact ⟨Ty.bulk_len (e := .str) (x := x.1) (n := B) b_34, Ty.bulk_len (e := .byte) (x := x.2.1) (n := B) b_34, Ty.bulk_len (e := .str) (x := x.2.2.1) (n := B) b_34⟩
theorem ow_Data_mk {w : World} {x : tData.D} {A0 A1 A2 : Option Addr} {c0 c1 c2 : Nat} {f0 f1 f2 : List Nat} (h0 : (Ty.sl .str).ow w [.slice A0 (List.length x.1) c0] x.1 f0) (h1 : (Ty.sl .byte).ow w [.slice A1 (List.length x.2.1) c1] x.2.1 f1) (h2 : (Ty.sl .str).ow w [.slice A2 (List.length x.2.2.1) c2] x.2.2.1 f2)
  (b3 : -9223372036854775808 ≤ x.2.2.2.1 ∧ x.2.2.2.1 ≤ 9223372036854775807) (b4 : -9223372036854775808 ≤ x.2.2.2.2 ∧ x.2.2.2.2 ≤ 9223372036854775807) :
  tData.ow w [.slice A0 (List.length x.1) c0, .slice A1 (List.length x.2.1) c1, .slice A2 (List.length x.2.2.1) c2, .int .i64 x.2.2.2.1, .int .i64 x.2.2.2.2] x (f0 ++ (f1 ++ (f2 ++ ([] ++ [])))) :=
 ⟨[_], [_, _, _, _], f0, (f1 ++ (f2 ++ ([] ++ []))), rfl, rfl, h0, ⟨[_], [_, _, _], f1, (f2 ++ ([] ++ [])), rfl, rfl, h1, ⟨[_], [_, _], f2, ([] ++ []), rfl, rfl, h2, ⟨[_], [_], [], [], rfl, rfl, ⟨⟨rfl, b3⟩, rfl⟩, ⟨⟨rfl, b4⟩, rfl⟩⟩⟩⟩⟩
theorem fr3 {lo m1 m2 hi : Nat} {f0 f1 f2 : List Nat} (h0 : FrI lo m1 f0) (h1 : FrI m1 m2 f1) (h2 : FrI m2 hi f2) (l1 : lo ≤ m1) (l2 : m1 ≤ m2) (l3 : m2 ≤ hi) : FrI lo hi (f0 ++ (f1 ++ (f2 ++ ([] ++ [])))) :=
 FrI.app h0 (FrI.app h1 (FrI.app h2 (FrI.nil hi hi) (Nat.le_refl _) l3 (Nat.le_refl _)) (Nat.le_refl _) l2 b_34) (Nat.le_refl _) l1 b_34
set_option maxRecDepth 100000 in
set_option maxHeartbeats 2000000 in
theorem C_impl_copyData (w : World) (cs : List Value) (x : tData.D) (h : tData.rd w cs x) (s0 : Ty.bulk tData x ≤ 1000000000) :
  Calls Try.prog 97 #[.agg cs.toArray] w (RetAgg w tData x) := by
 obtain ⟨As0, cs0, As1, cs1, As2, cs2, rfl, sg0, sg1, sg2, sg3, sg4⟩ := rd_Data h
 obtain ⟨l0, l1, l2⟩ := data_parts s0
 go_enter Try.func97, Try.ntmps97
 go_wp2_with fail
 refine (C_impl_copyName _ _ x.1 (Ty.rd_below b_6 sg0) b_34).mono ?_
 rintro e w0 ⟨cs0, fp0, rfl, how0, hfr0, hb0⟩
 obtain ⟨A0, c0, rfl⟩ := Ty.ow_slv how0
 have hz0 := hb0.size
 simp only [World.size_alloc, World.size_setCell] at hz0
 have hw0 : Below w.heap.size w w0 := bel_trans b_6 hb0
 have hB0 : Blk w0 (w.heap.size) 46 #[.slice As0 (List.length x.1) cs0, .slice As1 (List.length x.2.1) cs1, .slice As2 (List.length x.2.2.1) cs2, .int .i64 x.2.2.2.1, .int .i64 x.2.2.2.2] := ((Blk.new w 46 #[.slice As0 (List.length x.1) cs0, .slice As1 (List.length x.2.1) cs1, .slice As2 (List.length x.2.2.1) cs2, .int .i64 x.2.2.2.1, .int .i64 x.2.2.2.2]).alloc _).below hb0 b_26
 have hR0 : Blk w0 (w.heap.size + 1) 46 #[.slice none 0 0, .slice none 0 0, .slice none 0 0, .int .i64 0, .int .i64 0] := (show Blk ((w.alloc (.cells #[.slice As0 (List.length x.1) cs0, .slice As1 (List.length x.2.1) cs1, .slice As2 (List.length x.2.2.1) cs2, .int .i64 x.2.2.2.1, .int .i64 x.2.2.2.2] 46)).alloc (.cells #[.slice none 0 0, .slice none 0 0, .slice none 0 0, .int .i64 0, .int .i64 0] 46)) (w.heap.size + 1) 46 #[.slice none 0 0, .slice none 0 0, .slice none 0 0, .int .i64 0, .int .i64 0] from by have := Blk.new (w.alloc (.cells #[.slice As0 (List.length x.1) cs0, .slice As1 (List.length x.2.1) cs1, .slice As2 (List.length x.2.2.1) cs2, .int .i64 x.2.2.2.1, .int .i64 x.2.2.2.2] 46)) 46 #[.slice none 0 0, .slice none 0 0, .slice none 0 0, .int .i64 0, .int .i64 0]; rwa [World.size_alloc] at this).below hb0 b_26
 obtain ⟨kB_0_0, kB_0_1, kB_0_2, kB_0_3, kB_0_4, fB_0_0, fB_0_1, fB_0_2, fB_0_3, fB_0_4, zB_0⟩ := bk5 hB0
 obtain ⟨kR_0_0, kR_0_1, kR_0_2, kR_0_3, kR_0_4, fR_0_0, fR_0_1, fR_0_2, fR_0_3, fR_0_4, zR_0⟩ := bk5 hR0
 go_wp2_with fail
 refine (C_slices_Clone_byte _ _ x.2.1 (Ty.rd_below (bel_set hw0 (Nat.le_refl _) _) sg1) b_34).mono ?_
 rintro e w1 ⟨v1, rfl, hr1, hb1⟩
 obtain ⟨A1, c1, fp1, rfl, how1, hfr1⟩ := hr1.own hb1.size
 clear hr1
 have hz1 := hb1.size
 simp only [World.size_alloc, World.size_setCell] at hz1
 have hw1 : Below w.heap.size w w1 := bel_trans b_6 hb1
 clear kB_0_0 fB_0_0 kB_0_1 fB_0_1 kB_0_2 fB_0_2 kB_0_3 fB_0_3 kB_0_4 fB_0_4 kR_0_0 fR_0_0 kR_0_1 fR_0_1 kR_0_2 fR_0_2 kR_0_3 fR_0_3 kR_0_4 fR_0_4
 have hB1 : Blk w1 (w.heap.size) 46 #[.slice A0 (List.length x.1) c0, .slice As1 (List.length x.2.1) cs1, .slice As2 (List.length x.2.2.1) cs2, .int .i64 x.2.2.2.1, .int .i64 x.2.2.2.2] := (hB0.set_ 0 (.slice A0 (List.length x.1) c0)).below hb1 (by simp only [World.size_setCell]; omega)
 have hR1 : Blk w1 (w.heap.size + 1) 46 #[.slice none 0 0, .slice none 0 0, .slice none 0 0, .int .i64 0, .int .i64 0] := (hR0.far b_30 (.slice A0 (List.length x.1) c0)).below hb1 (by simp only [World.size_setCell]; omega)
 obtain ⟨kB_1_0, kB_1_1, kB_1_2, kB_1_3, kB_1_4, fB_1_0, fB_1_1, fB_1_2, fB_1_3, fB_1_4, zB_1⟩ := bk5 hB1
 obtain ⟨kR_1_0, kR_1_1, kR_1_2, kR_1_3, kR_1_4, fR_1_0, fR_1_1, fR_1_2, fR_1_3, fR_1_4, zR_1⟩ := bk5 hR1
 go_wp2_with fail
 refine (C_impl_copyName _ _ x.2.2.1 (Ty.rd_below (bel_set hw1 (Nat.le_refl _) _) sg2) b_34).mono ?_
 rintro e w2 ⟨cs2, fp2, rfl, how2, hfr2, hb2⟩
 obtain ⟨A2, c2, rfl⟩ := Ty.ow_slv how2
 have hz2 := hb2.size
 simp only [World.size_alloc, World.size_setCell] at hz2
 have hw2 : Below w.heap.size w w2 := bel_trans b_6 hb2
 clear kB_1_0 fB_1_0 kB_1_1 fB_1_1 kB_1_2 fB_1_2 kB_1_3 fB_1_3 kB_1_4 fB_1_4 kR_1_0 fR_1_0 kR_1_1 fR_1_1 kR_1_2 fR_1_2 kR_1_3 fR_1_3 kR_1_4 fR_1_4
 have hB2 : Blk w2 (w.heap.size) 46 #[.slice A0 (List.length x.1) c0, .slice A1 (List.length x.2.1) c1, .slice As2 (List.length x.2.2.1) cs2, .int .i64 x.2.2.2.1, .int .i64 x.2.2.2.2] := (hB1.set_ 1 (.slice A1 (List.length x.2.1) c1)).below hb2 (by simp only [World.size_setCell]; omega)
 have hR2 : Blk w2 (w.heap.size + 1) 46 #[.slice none 0 0, .slice none 0 0, .slice none 0 0, .int .i64 0, .int .i64 0] := (hR1.far b_30 (.slice A1 (List.length x.2.1) c1)).below hb2 (by simp only [World.size_setCell]; omega)
 obtain ⟨kB_2_0, kB_2_1, kB_2_2, kB_2_3, kB_2_4, fB_2_0, fB_2_1, fB_2_2, fB_2_3, fB_2_4, zB_2⟩ := bk5 hB2
 obtain ⟨kR_2_0, kR_2_1, kR_2_2, kR_2_3, kR_2_4, fR_2_0, fR_2_1, fR_2_2, fR_2_3, fR_2_4, zR_2⟩ := bk5 hR2
 go_wp2
 refine bodyPost_ret (v := .agg #[.slice A0 (List.length x.1) c0, .slice A1 (List.length x.2.1) c1, .slice A2 (List.length x.2.2.1) c2, .int .i64 x.2.2.2.1, .int .i64 x.2.2.2.2]) (by simp [results, Try.results97, go_sem, kB_2_0, kB_2_1, kB_2_2, kB_2_3, kB_2_4, kR_2_0, kR_2_1, kR_2_2, kR_2_3, kR_2_4, fB_2_0, fB_2_1, fB_2_2, fB_2_3, fB_2_4, fR_2_0, fR_2_1, fR_2_2, fR_2_3, fR_2_4]) rfl ?_
 exact ⟨_, _, rfl, ow_Data_mk (Ty.ow_keep b_1 how0) (Ty.ow_keep (by intro b hb'; have hb'' := (hfr1).2 b hb'; (try simp only [szz] at hb''); repeat (first | (with_reducible rfl) | (rw [Below.heap_setCell _ _ _ _ b_29]) | (rw [Below.heap_alloc _ _ _ (by simp only [World.size_alloc, World.size_setCell]; omega)]) | (rw [hb2.block _ (by simp only [szz]; omega)]))) how1) (Ty.ow_keep (by intro b hb'; have hb'' := (hfr2).2 b hb'; (try simp only [szz] at hb''); repeat (first | (with_reducible rfl) | (rw [Below.heap_setCell _ _ _ _ b_29]) | (rw [Below.heap_alloc _ _ _ (by simp only [World.size_alloc, World.size_setCell]; omega)]))) how2) sg3 sg4, (fr3 (m1 := w0.heap.size) (m2 := w1.heap.size) (hfr0.mono b_27 (Nat.le_refl _)) (hfr1.mono b_20 (Nat.le_refl _)) (hfr2.mono b_20 b_27) b_27 b_27 b_27), bel_trans b_6 (Below.refl _ _)⟩
set_option maxRecDepth 100000 in
set_option maxHeartbeats 2000000 in
theorem C_spec_l8Copy (w : World) (cs : List Value) (x : tData.D) (h : tData.rd w cs x) (s0 : Ty.bulk tData x ≤ 1000000000) :
  Calls Try.prog 100 #[.agg cs.toArray] w (RetAgg w tData x) := by
 obtain ⟨As0, cs0, As1, cs1, As2, cs2, rfl, sg0, sg1, sg2, sg3, sg4⟩ := rd_Data h
 obtain ⟨l0, l1, l2⟩ := data_parts s0
 go_enter Try.func100, Try.ntmps100
 go_wp2_with fail
 refine (C_spec_l4Copy _ _ x.1 (Ty.rd_below b_6 sg0) b_34).mono ?_
 rintro e w0 ⟨cs0, fp0, rfl, how0, hfr0, hb0⟩
 obtain ⟨A0, c0, rfl⟩ := Ty.ow_slv how0
 have hz0 := hb0.size
 simp only [World.size_alloc, World.size_setCell] at hz0
 have hw0 : Below w.heap.size w w0 := bel_trans b_6 hb0
 have hB0 : Blk w0 (w.heap.size) 46 #[.slice As0 (List.length x.1) cs0, .slice As1 (List.length x.2.1) cs1, .slice As2 (List.length x.2.2.1) cs2, .int .i64 x.2.2.2.1, .int .i64 x.2.2.2.2] := (((Blk.new w 46 #[.slice As0 (List.length x.1) cs0, .slice As1 (List.length x.2.1) cs1, .slice As2 (List.length x.2.2.1) cs2, .int .i64 x.2.2.2.1, .int .i64 x.2.2.2.2]).alloc _).alloc _).below hb0 b_26
 have hR0 : Blk w0 (w.heap.size + 1) 46 #[.slice none 0 0, .slice none 0 0, .slice none 0 0, .int .i64 0, .int .i64 0] := ((show Blk ((w.alloc (.cells #[.slice As0 (List.length x.1) cs0, .slice As1 (List.length x.2.1) cs1, .slice As2 (List.length x.2.2.1) cs2, .int .i64 x.2.2.2.1, .int .i64 x.2.2.2.2] 46)).alloc (.cells #[.slice none 0 0, .slice none 0 0, .slice none 0 0, .int .i64 0, .int .i64 0] 46)) (w.heap.size + 1) 46 #[.slice none 0 0, .slice none 0 0, .slice none 0 0, .int .i64 0, .int .i64 0] from by have := Blk.new (w.alloc (.cells #[.slice As0 (List.length x.1) cs0, .slice As1 (List.length x.2.1) cs1, .slice As2 (List.length x.2.2.1) cs2, .int .i64 x.2.2.2.1, .int .i64 x.2.2.2.2] 46)) 46 #[.slice none 0 0, .slice none 0 0, .slice none 0 0, .int .i64 0, .int .i64 0]; rwa [World.size_alloc] at this).alloc _).below hb0 b_26
 have hO0 : Blk w0 (w.heap.size + 1 + 1) 46 #[.slice As0 (List.length x.1) cs0, .slice As1 (List.length x.2.1) cs1, .slice As2 (List.length x.2.2.1) cs2, .int .i64 x.2.2.2.1, .int .i64 x.2.2.2.2] := (show Blk (((w.alloc (.cells #[.slice As0 (List.length x.1) cs0, .slice As1 (List.length x.2.1) cs1, .slice As2 (List.length x.2.2.1) cs2, .int .i64 x.2.2.2.1, .int .i64 x.2.2.2.2] 46)).alloc (.cells #[.slice none 0 0, .slice none 0 0, .slice none 0 0, .int .i64 0, .int .i64 0] 46)).alloc (.cells #[.slice As0 (List.length x.1) cs0, .slice As1 (List.length x.2.1) cs1, .slice As2 (List.length x.2.2.1) cs2, .int .i64 x.2.2.2.1, .int .i64 x.2.2.2.2] 46)) (w.heap.size + 1 + 1) 46 #[.slice As0 (List.length x.1) cs0, .slice As1 (List.length x.2.1) cs1, .slice As2 (List.length x.2.2.1) cs2, .int .i64 x.2.2.2.1, .int .i64 x.2.2.2.2] from by have := Blk.new ((w.alloc (.cells #[.slice As0 (List.length x.1) cs0, .slice As1 (List.length x.2.1) cs1, .slice As2 (List.length x.2.2.1) cs2, .int .i64 x.2.2.2.1, .int .i64 x.2.2.2.2] 46)).alloc (.cells #[.slice none 0 0, .slice none 0 0, .slice none 0 0, .int .i64 0, .int .i64 0] 46)) 46 #[.slice As0 (List.length x.1) cs0, .slice As1 (List.length x.2.1) cs1, .slice As2 (List.length x.2.2.1) cs2, .int .i64 x.2.2.2.1, .int .i64 x.2.2.2.2]; rwa [World.size_alloc, World.size_alloc] at this).below hb0 b_26
 obtain ⟨kB_0_0, kB_0_1, kB_0_2, kB_0_3, kB_0_4, fB_0_0, fB_0_1, fB_0_2, fB_0_3, fB_0_4, zB_0⟩ := bk5 hB0
 obtain ⟨kR_0_0, kR_0_1, kR_0_2, kR_0_3, kR_0_4, fR_0_0, fR_0_1, fR_0_2, fR_0_3, fR_0_4, zR_0⟩ := bk5 hR0
 obtain ⟨kO_0_0, kO_0_1, kO_0_2, kO_0_3, kO_0_4, fO_0_0, fO_0_1, fO_0_2, fO_0_3, fO_0_4, zO_0⟩ := bk5 hO0
 have HL0 : Hid (Row flatB ((w0.setCell ⟨w.heap.size + 1 + 1, 0, none⟩ (.slice A0 (List.length x.1) c0)).alloc (.cells #[] 5)) w0.heap.size 5 (.slice (some ⟨w0.heap.size, 0, none⟩) 0 0) []) := by
  have := Row.lit0 flatB (w0.setCell ⟨w.heap.size + 1 + 1, 0, none⟩ (.slice A0 (List.length x.1) c0)) 5 (Nat.le_refl _)
  simp only [World.size_setCell] at this
  exact Lib.hid this
 go_wp2_with (at_builtin; go_loud (refine wpList_append_row rfl _ _ 22 rfl flatB w0.heap.size 5 infoB rfl Try.underlying22 _ _ [] x.2.1 rfl rfl HL0.out (Ty.rd_below (bel_alloc (bel_set hw0 b_30 _) _) sg1) ?_ ?_ ?_ ?_))
 case refine_1 => simp only [List.length_nil]; omega
 case refine_2 => simp only [List.length_nil]; unfold maxLen; omega
 case refine_3 => simp only [World.size_alloc, World.size_setCell]; omega
 intro v1 w1 hr1 hg1
 have hr1' : Row flatB w1 w0.heap.size 5 v1 x.2.1 := hr1
 have hb1 : Below (w0.setCell ⟨w.heap.size + 1 + 1, 0, none⟩ (.slice A0 (List.length x.1) c0)).heap.size (w0.setCell ⟨w.heap.size + 1 + 1, 0, none⟩ (.slice A0 (List.length x.1) c0)) w1 := bel_grown (bel_alloc (Below.refl _ _) _) (by simp only [World.size_alloc, World.size_setCell]; omega) hg1 (fun g hg => by simp [Value.ownBlock] at hg; simp only [World.size_setCell]; omega)
 obtain ⟨A1, c1, fp1, rfl, how1, hfr1⟩ := hr1'.own (by have := hb1.size; simp only [World.size_setCell] at this; exact this)
 clear hr1 hr1' hg1 HL0
 have hz1 := hb1.size
 simp only [World.size_alloc, World.size_setCell] at hz1
 have hw1 : Below w.heap.size w w1 := bel_trans b_6 hb1
 clear kB_0_0 fB_0_0 kB_0_1 fB_0_1 kB_0_2 fB_0_2 kB_0_3 fB_0_3 kB_0_4 fB_0_4 kR_0_0 fR_0_0 kR_0_1 fR_0_1 kR_0_2 fR_0_2 kR_0_3 fR_0_3 kR_0_4 fR_0_4 kO_0_0 fO_0_0 kO_0_1 fO_0_1 kO_0_2 fO_0_2 kO_0_3 fO_0_3 kO_0_4 fO_0_4
 have hB1 : Blk w1 (w.heap.size) 46 #[.slice As0 (List.length x.1) cs0, .slice As1 (List.length x.2.1) cs1, .slice As2 (List.length x.2.2.1) cs2, .int .i64 x.2.2.2.1, .int .i64 x.2.2.2.2] := (hB0.far b_30 (.slice A0 (List.length x.1) c0)).below hb1 (by simp only [World.size_setCell]; omega)
 have hR1 : Blk w1 (w.heap.size + 1) 46 #[.slice none 0 0, .slice none 0 0, .slice none 0 0, .int .i64 0, .int .i64 0] := (hR0.far b_30 (.slice A0 (List.length x.1) c0)).below hb1 (by simp only [World.size_setCell]; omega)
 have hO1 : Blk w1 (w.heap.size + 1 + 1) 46 #[.slice A0 (List.length x.1) c0, .slice As1 (List.length x.2.1) cs1, .slice As2 (List.length x.2.2.1) cs2, .int .i64 x.2.2.2.1, .int .i64 x.2.2.2.2] := (hO0.set_ 0 (.slice A0 (List.length x.1) c0)).below hb1 (by simp only [World.size_setCell]; omega)
 obtain ⟨kB_1_0, kB_1_1, kB_1_2, kB_1_3, kB_1_4, fB_1_0, fB_1_1, fB_1_2, fB_1_3, fB_1_4, zB_1⟩ := bk5 hB1
 obtain ⟨kR_1_0, kR_1_1, kR_1_2, kR_1_3, kR_1_4, fR_1_0, fR_1_1, fR_1_2, fR_1_3, fR_1_4, zR_1⟩ := bk5 hR1
 obtain ⟨kO_1_0, kO_1_1, kO_1_2, kO_1_3, kO_1_4, fO_1_0, fO_1_1, fO_1_2, fO_1_3, fO_1_4, zO_1⟩ := bk5 hO1
 go_wp2_with fail
 refine (C_spec_l4Copy _ _ x.2.2.1 (Ty.rd_below (bel_set hw1 b_30 _) sg2) b_34).mono ?_
 rintro e w2 ⟨cs2, fp2, rfl, how2, hfr2, hb2⟩
 obtain ⟨A2, c2, rfl⟩ := Ty.ow_slv how2
 have hz2 := hb2.size
 simp only [World.size_alloc, World.size_setCell] at hz2
 have hw2 : Below w.heap.size w w2 := bel_trans b_6 hb2
 clear kB_1_0 fB_1_0 kB_1_1 fB_1_1 kB_1_2 fB_1_2 kB_1_3 fB_1_3 kB_1_4 fB_1_4 kR_1_0 fR_1_0 kR_1_1 fR_1_1 kR_1_2 fR_1_2 kR_1_3 fR_1_3 kR_1_4 fR_1_4 kO_1_0 fO_1_0 kO_1_1 fO_1_1 kO_1_2 fO_1_2 kO_1_3 fO_1_3 kO_1_4 fO_1_4
 have hB2 : Blk w2 (w.heap.size) 46 #[.slice As0 (List.length x.1) cs0, .slice As1 (List.length x.2.1) cs1, .slice As2 (List.length x.2.2.1) cs2, .int .i64 x.2.2.2.1, .int .i64 x.2.2.2.2] := (hB1.far b_30 (.slice A1 (List.length x.2.1) c1)).below hb2 (by simp only [World.size_setCell]; omega)
 have hR2 : Blk w2 (w.heap.size + 1) 46 #[.slice none 0 0, .slice none 0 0, .slice none 0 0, .int .i64 0, .int .i64 0] := (hR1.far b_30 (.slice A1 (List.length x.2.1) c1)).below hb2 (by simp only [World.size_setCell]; omega)
 have hO2 : Blk w2 (w.heap.size + 1 + 1) 46 #[.slice A0 (List.length x.1) c0, .slice A1 (List.length x.2.1) c1, .slice As2 (List.length x.2.2.1) cs2, .int .i64 x.2.2.2.1, .int .i64 x.2.2.2.2] := (hO1.set_ 1 (.slice A1 (List.length x.2.1) c1)).below hb2 (by simp only [World.size_setCell]; omega)
 obtain ⟨kB_2_0, kB_2_1, kB_2_2, kB_2_3, kB_2_4, fB_2_0, fB_2_1, fB_2_2, fB_2_3, fB_2_4, zB_2⟩ := bk5 hB2
 obtain ⟨kR_2_0, kR_2_1, kR_2_2, kR_2_3, kR_2_4, fR_2_0, fR_2_1, fR_2_2, fR_2_3, fR_2_4, zR_2⟩ := bk5 hR2
 obtain ⟨kO_2_0, kO_2_1, kO_2_2, kO_2_3, kO_2_4, fO_2_0, fO_2_1, fO_2_2, fO_2_3, fO_2_4, zO_2⟩ := bk5 hO2
 go_wp2
 refine bodyPost_ret (v := .agg #[.slice A0 (List.length x.1) c0, .slice A1 (List.length x.2.1) c1, .slice A2 (List.length x.2.2.1) c2, .int .i64 x.2.2.2.1, .int .i64 x.2.2.2.2]) (by simp [results, Try.results100, go_sem, kO_2_0, kO_2_1, kO_2_2, kO_2_3, kO_2_4, kR_2_0, kR_2_1, kR_2_2, kR_2_3, kR_2_4, fO_2_0, fO_2_1, fO_2_2, fO_2_3, fO_2_4, fR_2_0, fR_2_1, fR_2_2, fR_2_3, fR_2_4]) rfl ?_
 exact ⟨_, _, rfl, ow_Data_mk (Ty.ow_keep b_1 how0) (Ty.ow_keep (by intro b hb'; have hb'' := (hfr1).2 b hb'; (try simp only [szz] at hb''); repeat (first | (with_reducible rfl) | (rw [Below.heap_setCell _ _ _ _ b_29]) | (rw [Below.heap_alloc _ _ _ (by simp only [World.size_alloc, World.size_setCell]; omega)]) | (rw [hb2.block _ (by simp only [szz]; omega)]))) how1) (Ty.ow_keep (by intro b hb'; have hb'' := (hfr2).2 b hb'; (try simp only [szz] at hb''); repeat (first | (with_reducible rfl) | (rw [Below.heap_setCell _ _ _ _ b_29]) | (rw [Below.heap_alloc _ _ _ (by simp only [World.size_alloc, World.size_setCell]; omega)]))) how2) sg3 sg4, (fr3 (m1 := w0.heap.size) (m2 := w1.heap.size) (hfr0.mono b_27 (Nat.le_refl _)) (hfr1.mono b_20 (Nat.le_refl _)) (hfr2.mono b_20 b_27) b_27 b_27 b_27), bel_trans b_6 (Below.refl _ _)⟩
def SrcF (e : Ty) (w : World) (u : Value) (y : List e.D) (fp : List Nat) : Prop :=
 ∃ A c fs, u = .slice A y.length c ∧ fp = (List.range y.length).flatMap fs ∧
  (0 < y.length → ∃ b o, A = some ⟨b, o, none⟩ ∧ ∀ i (h : i < y.length), ∃ ds : List Value, ds.length = e.sz ∧ (∀ j, j < e.sz → w.cell? ⟨b, o + i * e.sz + j, none⟩ = ds[j]?) ∧ e.ow w ds y[i] (fs i))
theorem SrcF.lit {e : Ty} {w : World} {c g : Nat} (te : TypeId) {ds : List Value} {d : e.D} {f : List Nat} (how : e.ow w ds d f) (hg : g = w.heap.size) :
  SrcF e (w.alloc (.cells ds.toArray te)) (.slice (some ⟨g, 0, none⟩) 1 c) [d] f := by
 subst hg
 refine ⟨_, c, fun _ => f, rfl, by simp, fun _ => ⟨_, _, rfl, fun i hi => ?_⟩⟩
 obtain rfl : i = 0 := by simpa using hi
 exact ⟨ds, Ty.ow_len how, fun j hj => by rw [Nat.zero_mul, Nat.add_zero, Nat.zero_add]; exact (cell_new w te ds.toArray j rfl).trans (by simp), Ty.ow_bel ((Below.refl _ _).alloc (Nat.le_refl _) _) how⟩
def DRowF (e : Ty) (w : World) (base : Nat) (te : TypeId) (v : Value) (x : List e.D) (fp : List Nat) : Prop :=
 ∃ (css : Nat → List Value) (fs : Nat → List Nat), w.ownsRow base te e.sz v x.length ((List.range x.length).flatMap css) ∧
  (∀ i (h : i < x.length), (css i).length = e.sz ∧ e.ow w (css i) x[i] (fs i)) ∧
  fp = (List.range x.length).flatMap fs ∧ (∀ g, v.ownBlock = some g → g ∉ fp)
theorem DRowF.lit0 (e : Ty) (w : World) (te : TypeId) {base : Nat} (hb : base ≤ w.heap.size) : DRowF e (w.alloc (.cells #[] te)) base te (.slice (some ⟨w.heap.size, 0, none⟩) 0 0) [] [] :=
 ⟨fun _ => [], fun _ => [], World.ownsRow_lit w #[] 0 hb (by unfold maxLen; omega) (by simp), fun i h => absurd h (by simp), rfl, fun g h => by simp⟩
section
variable {e : Ty} {w w' : World} {base : Nat} {te : TypeId} {v : Value} {x : List e.D} {fp : List Nat}
theorem DRowF.drow (h : DRowF e w base te v x fp) (hf : FrI base w.heap.size fp) : DRow e w base te v x := by
 obtain ⟨css, fs, h1, h2, h3, h4⟩ := h
 subst h3
 exact ⟨css, fs, h1, h2, hf, h4⟩
theorem DRowF.block (h : DRowF e w base te v x fp) : ∀ g, v.ownBlock = some g → base ≤ g ∧ g < w.heap.size := by
 obtain ⟨css, fs, h, _⟩ := h
 exact h.lt
theorem DRowF.keep (h : DRowF e w base te v x fp) (hsz : w.heap.size ≤ w'.heap.size) (hk : ∀ b, b ∈ fp → w'.heap[b]? = w.heap[b]?) (ho : ∀ g, v.ownBlock = some g → w'.heap[g]? = w.heap[g]?) : DRowF e w' base te v x fp := by
 obtain ⟨css, fs, h1, h2, h3, h4⟩ := h
 refine ⟨css, fs, ⟨h1.1, ?_⟩, fun i hi => ⟨(h2 i hi).1, Ty.ow_keep (fun b hb' => hk b ?_) (h2 i hi).2⟩, h3, h4⟩
 ·rcases h1.2 with hn | ⟨g, cap, cur, rfl, hbg, hgg, rest⟩
  ·exact .inl hn
  ·exact .inr ⟨g, cap, cur, rfl, hbg, (ho g rfl).trans hgg, rest⟩
 ·rw [h3]; exact List.mem_flatMap.2 ⟨i, List.mem_range.2 hi, hb'⟩
theorem DRowF.mem_lt (h : DRowF e w base te v x fp) : ∀ b ∈ fp, b < w.heap.size := by
 obtain ⟨css, fs, h1, h2, h3, h4⟩ := h
 intro b hb
 rw [h3] at hb
 obtain ⟨i, hi, hb⟩ := List.mem_flatMap.1 hb
 exact Ty.ow_lt (h2 i (List.mem_range.1 hi)).2 b hb
theorem DRowF.below (h : DRowF e w base te v x fp) (hb : Below w.heap.size w w') : DRowF e w' base te v x fp :=
 h.keep hb.size (fun b hm => hb.block b (h.mem_lt b hm)) (fun g hg => hb.block g (h.block g hg).2)
end
theorem run_append_drowF {P : Program} {w : World} {e : Ty} (base : Nat) (t ty te : TypeId) {z : Value} {by_ : Nat} (hinfo : (P.info? te).map (fun i => (i.zero, i.size, i.bytes)) = some (some z, e.sz, by_)) (hz1 : z.cells.size = e.sz) (ht : P.underlying t = some (.slice te))
  (v u : Value) (x y : List e.D) (fp fq : List Nat) (hown : DRowF e w base te v x fp) (hy : SrcF e w u y fq) (hvy : ∀ g, v.ownBlock = some g → g ∉ fq) (hbytes : (x.length + y.length) * by_ ≤ 140737488355328) (hlen : x.length + y.length ≤ maxLen) (hbase : base ≤ w.heap.size) :
  ∃ v' w', (Builtin.append_ #[t, t] ty #[v, u]).run P w = .ok v' w' ∧ DRowF e w' base te v' (x ++ y) (fp ++ fq) ∧ w.grownBy w' v.ownBlock ∧ (v'.ownBlock = v.ownBlock ∨ v'.ownBlock = some w.heap.size) := by
 obtain ⟨i, hi, hzz⟩ := Option.map_eq_some_iff.1 hinfo
 simp only [Prod.mk.injEq] at hzz
 obtain ⟨hz, hsz, hby⟩ := hzz
 have hlt0 := hown.block
 have hmem := hown.mem_lt
 obtain ⟨css, fs, h1, h2, h3, h4⟩ := hown
 obtain ⟨A, c, fs', rfl, hfq, hel⟩ := hy
 by_cases h0 : y.length = 0
 ·have hy0 : y = [] := List.eq_nil_of_length_eq_zero h0
  subst hy0
  have hfq0 : fq = [] := hfq
  subst hfq0
  refine ⟨v, w, run_append_zero base t ty te i e.sz ht hi v _ _ h1 A c, ?_, World.grownBy.refl _ _, .inl rfl⟩
  rw [List.append_nil, List.append_nil]
  exact ⟨css, fs, h1, h2, h3, h4⟩
 ·obtain ⟨b, o, rfl, hel2⟩ := hel b_34
  have hpos := Ty.sz_pos e
  have hds : ∃ dss : Nat → List Value, ∀ i (h : i < y.length), (dss i).length = e.sz ∧ (∀ j, j < e.sz → w.cell? ⟨b, o + i * e.sz + j, none⟩ = (dss i)[j]?) ∧ e.ow w (dss i) y[i] (fs' i) := by
   refine ⟨fun i => if h : i < y.length then (hel2 i h).choose else [], fun i h => ?_⟩
   simp only [dif_pos h]
   exact (hel2 i h).choose_spec
  obtain ⟨dss, hd⟩ := hds
  have hqlt : ∀ b ∈ fq, b < w.heap.size := by
   intro b' hb'
   rw [hfq] at hb'
   obtain ⟨i, hi, hb'⟩ := List.mem_flatMap.1 hb'
   exact Ty.ow_lt (hd i (List.mem_range.1 hi)).2.2 b' hb'
  have hl : ((List.range y.length).flatMap dss).length = y.length * e.sz := fmr_len dss e.sz y.length (fun i hi => (hd i hi).1)
  have hcells : ∀ j u, ((List.range y.length).flatMap dss)[j]? = some u → w.cell? ((⟨b, o, none⟩ : Addr).add j) = some u := by
   intro j u hj
   have hjl : j < y.length * e.sz := by rw [← hl]; exact (List.getElem?_eq_some_iff.1 hj).1
   have hdiv : j / e.sz < y.length := (Nat.div_lt_iff_lt_mul hpos).2 hjl
   have hmod : j % e.sz < e.sz := Nat.mod_lt _ hpos
   have hjj : j / e.sz * e.sz + j % e.sz = j := by rw [Nat.mul_comm]; exact Nat.div_add_mod j e.sz
   have h5 := (hd _ hdiv).2.1 _ hmod
   have h6 := fmr_get dss e.sz y.length (fun i hi => (hd i hi).1) _ _ hdiv hmod
   rw [hjj, hj] at h6
   rw [Addr.add_lit, show o + j = o + j / e.sz * e.sz + j % e.sz from by omega, h5, ← h6]
  have hones : ∀ u ∈ (List.range y.length).flatMap dss, u.oneCell' = true := by
   intro u hu
   obtain ⟨k, hk, hu⟩ := List.mem_flatMap.1 hu
   exact Ty.ow_ones (hd k (List.mem_range.1 hk)).2.2 u hu
  obtain ⟨v', w', hr, g1, g2, _, g3⟩ := run_append_own_at (P := P) w base t ty te i z e.sz by_ ht hi hz hsz hby hz1 hpos v x.length _ h1 ⟨b, o, none⟩ y.length c ((List.range y.length).flatMap dss) hl hcells hones hlen hbytes hbase
  refine ⟨v', w', hr, ⟨glue x.length css dss, glue x.length fs fs', ?_, ?_, ?_, ?_⟩, g2, g3⟩
  ·rw [List.length_append, fmr_glue]; exact g1
  ·intro k hk
   by_cases hkx : k < x.length
   ·rw [glue_lt hkx, glue_lt hkx, List.getElem_append_left hkx]
    refine ⟨(h2 k hkx).1, Ty.ow_keep (fun b' hb' => ?_) (h2 k hkx).2⟩
    have hm : b' ∈ fp := by rw [h3]; exact List.mem_flatMap.2 ⟨k, List.mem_range.2 hkx, hb'⟩
    exact g2.block b' (hmem b' hm) (fun e' => h4 b' e'.symm hm)
   ·obtain ⟨m, rfl⟩ : ∃ m, k = x.length + m := ⟨k - x.length, by omega⟩
    have hm : m < y.length := by rw [List.length_append] at hk; omega
    rw [glue_ge, glue_ge, List.getElem_append_right b_34]
    simp only [Nat.add_sub_cancel_left]
    refine ⟨(hd m hm).1, Ty.ow_keep (fun b' hb' => ?_) (hd m hm).2.2⟩
    have hm' : b' ∈ fq := by rw [hfq]; exact List.mem_flatMap.2 ⟨m, List.mem_range.2 hm, hb'⟩
    exact g2.block b' (hqlt b' hm') (fun e' => hvy b' e'.symm hm')
  ·rw [List.length_append, fmr_glue, h3, hfq]
  ·intro g hg hmem'
   rcases g3 with g3 | g3
   ·rw [g3] at hg
    rcases List.mem_append.1 hmem' with hm | hm
    ·exact h4 g hg hm
    ·exact hvy g hg hm
   ·rw [g3] at hg
    have hg' : w.heap.size = g := by simpa using hg
    rcases List.mem_append.1 hmem' with hm | hm
    ·have := hmem g hm; omega
    ·have := hqlt g hm; omega
theorem wpList_append_drowF {P : Program} {w : World} {ops : Array Oper} {rest : List Oper} {o : Oper} {a : Act} {Q : Exit → Act → World → Prop} (hgd : o.guard = none) (s xo : Operand) (t : TypeId)
  (ho : o.op = .call { callee := .builtin .append, args := #[s, xo], argTypes := #[t, t] }) {e : Ty} (base : Nat) (te : TypeId) {z : Value} {by_ : Nat}
  (hinfo : (P.info? te).map (fun i => (i.zero, i.size, i.bytes)) = some (some z, e.sz, by_)) (hz1 : z.cells.size = e.sz) (ht : P.underlying t = some (.slice te))
  (v u : Value) (x y : List e.D) (fp fq : List Nat) (hs : a.eval s = v) (hx : a.eval xo = u) (hown : DRowF e w base te v x fp) (hy : SrcF e w u y fq) (hvy : ∀ g, v.ownBlock = some g → g ∉ fq) (hbytes : (x.length + y.length) * by_ ≤ 140737488355328) (hlen : x.length + y.length ≤ maxLen) (hbase : base ≤ w.heap.size)
  (h : ∀ v' w', DRowF e w' base te v' (x ++ y) (fp ++ fq) → w.grownBy w' v.ownBlock → (v'.ownBlock = v.ownBlock ∨ v'.ownBlock = some w.heap.size) → wpList P ops Q rest (a.put o.dst v') w') : wpList P ops Q (o :: rest) a w := by
 obtain ⟨v', w', hr, h2, h3, h4⟩ := run_append_drowF (P := P) base t o.type te hinfo hz1 ht v u x y fp fq hown hy hvy hbytes hlen hbase
 refine wpList_plain hgd fun K hK => ?_
 unfold Oper.wp execOp
 simp only [ho, resolve, invoke, builtin, Sem.run_bind, Sem.run_pure, Result.andThen_ok, List.map_toArray, List.map_cons, List.map_nil, hs, hx, hr]
 exact hK _ _ (h v' w' h2 h3 h4)
end Go.Proofs.Ytldgbnlcnlfmeaa
