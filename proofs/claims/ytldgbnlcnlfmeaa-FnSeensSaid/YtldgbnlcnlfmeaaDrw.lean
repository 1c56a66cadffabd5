/- Rows of structs that a call builds by append, each element with memory of its own. No program in sight. -/
import Derived.Test.YtldgbnlcnlfmeaaStp
import Derived.Test.YtldgbnlcnlfmeaaMkb
import Derived.Maps.AppendAt
namespace Go.Proofs.Ytldgbnlcnlfmeaa
open Go.RowKit
set_option linter.unusedVariables false
set_option linter.unusedSimpArgs false

theorem Ty.ow_ones {w : World} : ∀ {t : Ty} {cs : List Value} {x : t.D} {fp : List Nat}, t.ow w cs x fp → ∀ u ∈ cs, u.oneCell' = true
  | .int, _, _, _, h => by rw [h.1.1]; intro u hu; simp at hu; subst hu; rfl
  | .byte, _, _, _, h => by rw [show _ = _ from h.1]; intro u hu; simp at hu; subst hu; rfl
  | .bool, _, _, _, h => by rw [show _ = _ from h.1]; intro u hu; simp at hu; subst hu; rfl
  | .str, _, _, _, h => by rw [h.1.1]; intro u hu; simp at hu; subst hu; rfl
  | .sl _, _, _, _, ⟨_, _, h, _⟩ => by rw [h]; intro u hu; simp at hu; subst hu; rfl
  | .pr a b, _, _, _, ⟨c1, c2, _, _, h, _, h1, h2⟩ => by
    rw [h]; intro u hu
    rcases List.mem_append.1 hu with hu | hu
    · exact Ty.ow_ones h1 u hu
    · exact Ty.ow_ones h2 u hu
/-- No slice within. -/
def Ty.flat : Ty → Bool
  | .sl _ => false
  | .pr a b => a.flat && b.flat
  | _ => true
theorem Ty.rd_ow_flat {w : World} : ∀ {t : Ty} {cs : List Value} {x : t.D}, t.flat = true → t.rd w cs x → t.ow w cs x []
  | .int, _, _, _, h => ⟨h, rfl⟩
  | .byte, _, _, _, h => ⟨h, rfl⟩
  | .bool, _, _, _, h => ⟨h, rfl⟩
  | .str, _, _, _, h => ⟨h, rfl⟩
  | .sl _, _, _, hf, _ => by simp [Ty.flat] at hf
  | .pr a b, _, _, hf, ⟨c1, c2, h, h1, h2⟩ => by
    simp only [Ty.flat, Bool.and_eq_true] at hf
    exact ⟨c1, c2, [], [], h, rfl, Ty.rd_ow_flat hf.1 h1, Ty.rd_ow_flat hf.2 h2⟩

theorem fmr_congr {α : Type} {f g : Nat → List α} : ∀ {n : Nat}, (∀ i, i < n → f i = g i) → (List.range n).flatMap f = (List.range n).flatMap g
  | 0, _ => rfl
  | n + 1, h => by
    rw [List.range_succ, List.flatMap_append, List.flatMap_append, fmr_congr (n := n) (fun i hi => h i (by omega))]
    simp [h n (by omega)]
theorem fmr_len {α : Type} (css : Nat → List α) (sz : Nat) : ∀ n, (∀ i, i < n → (css i).length = sz) → ((List.range n).flatMap css).length = n * sz
  | 0, _ => by simp
  | n + 1, h => by
    rw [List.range_succ, List.flatMap_append, List.length_append, fmr_len css sz n (fun i hi => h i (by omega)), Nat.succ_mul]
    simp [h n (by omega)]
theorem fmr_get {α : Type} (css : Nat → List α) (sz : Nat) : ∀ n, (∀ i, i < n → (css i).length = sz) → ∀ i j, i < n → j < sz → ((List.range n).flatMap css)[i * sz + j]? = (css i)[j]?
  | 0, _, _, _, h, _ => by omega
  | n + 1, h, i, j, hi, hj => by
    have hl := fmr_len css sz n (fun i hi => h i (by omega))
    rw [List.range_succ, List.flatMap_append]
    by_cases hin : i < n
    · have h2 : (i + 1) * sz ≤ n * sz := Nat.mul_le_mul_right _ (by omega)
      rw [Nat.succ_mul] at h2
      rw [List.getElem?_append_left (by rw [hl]; omega)]
      exact fmr_get css sz n (fun i hi => h i (by omega)) i j hin hj
    · obtain rfl : i = n := by omega
      rw [List.getElem?_append_right (by rw [hl]; omega), hl, Nat.add_sub_cancel_left]
      simp
def glue {α : Type} (n : Nat) (f g : Nat → α) : Nat → α := fun i => if i < n then f i else g (i - n)
theorem glue_lt {α : Type} {n : Nat} {f g : Nat → α} {i : Nat} (h : i < n) : glue n f g i = f i := if_pos h
theorem glue_ge {α : Type} {n : Nat} {f g : Nat → α} (i : Nat) : glue n f g (n + i) = g i := by
  unfold glue; rw [if_neg (by omega), Nat.add_sub_cancel_left]
theorem fmr_glue {α : Type} (n : Nat) (f g : Nat → List α) : ∀ m, (List.range (n + m)).flatMap (glue n f g) = (List.range n).flatMap f ++ (List.range m).flatMap g
  | 0 => by
    rw [Nat.add_zero, fmr_congr (fun i hi => glue_lt hi)]; simp
  | m + 1 => by
    rw [← Nat.add_assoc, List.range_succ, List.flatMap_append, fmr_glue n f g m, List.range_succ (n := m), List.flatMap_append, List.append_assoc]
    simp [glue_ge]

/-- What an append takes in: elements whose cells are read, each owned in blocks behind lo. -/
def Src (e : Ty) (w : World) (lo : Nat) (u : Value) (y : List e.D) : Prop :=
  ∃ A c fs, u = .slice A y.length c ∧ FrI lo w.heap.size ((List.range y.length).flatMap fs) ∧
    (0 < y.length → ∃ b o, A = some ⟨b, o, none⟩ ∧ ∀ i (h : i < y.length), ∃ ds : List Value, ds.length = e.sz ∧ (∀ j, j < e.sz → w.cell? ⟨b, o + i * e.sz + j, none⟩ = ds[j]?) ∧ e.ow w ds y[i] (fs i))
theorem Src.flat {e : Ty} {w : World} {u : Value} {y : List e.D} (hf : e.flat = true) (h : (Ty.sl e).rd w [u] y) (lo : Nat) : Src e w lo u y := by
  obtain ⟨A, c, hu, _, _, _, hc⟩ := h
  injection hu with hu _
  refine ⟨A, c, fun _ => [], hu, ?_, fun h0 => ?_⟩
  · rw [List.flatMap_eq_nil_iff.2 (fun _ _ => rfl)]; exact FrI.nil _ _
  · obtain ⟨b, o, hA, hel⟩ := hc h0
    exact ⟨b, o, hA, fun i hi => by obtain ⟨ds, h1, h2, h3⟩ := hel i hi; exact ⟨ds, h1, h2, Ty.rd_ow_flat hf h3⟩⟩
/-- One element, laid in a block of its own. -/
theorem Src.one {e : Ty} {w : World} {lo b o c : Nat} {ds : List Value} {d : e.D} {f : List Nat} (hc : ∀ j, j < e.sz → w.cell? ⟨b, o + j, none⟩ = ds[j]?) (how : e.ow w ds d f) (hf : FrI lo w.heap.size f) :
    Src e w lo (.slice (some ⟨b, o, none⟩) 1 c) [d] := by
  refine ⟨_, c, fun _ => f, rfl, ?_, fun _ => ⟨b, o, rfl, fun i hi => ?_⟩⟩
  · simpa using hf
  · have h0 : i = 0 := by simpa using hi
    subst h0
    exact ⟨ds, Ty.ow_len how, fun j hj => by rw [Nat.zero_mul, Nat.add_zero]; exact hc j hj, how⟩
theorem Src.lit {e : Ty} {w : World} {lo c : Nat} (te : TypeId) {ds : List Value} {d : e.D} {f : List Nat} (how : e.ow w ds d f) (hf : FrI lo w.heap.size f) :
    Src e (w.alloc (.cells ds.toArray te)) lo (.slice (some ⟨w.heap.size, 0, none⟩) 1 c) [d] :=
  Src.one (fun j hj => by rw [Nat.zero_add]; exact (cell_new w te ds.toArray j rfl).trans (by simp)) (Ty.ow_bel ((Below.refl _ _).alloc (Nat.le_refl _) _) how) (hf.mono (Nat.le_refl _) (by rw [World.size_alloc]; omega))

theorem Src.litE {e : Ty} {w : World} {lo c g : Nat} (te : TypeId) {ds : List Value} {d : e.D} {f : List Nat} (how : e.ow w ds d f) (hf : FrI lo w.heap.size f) (hg : g = w.heap.size) :
    Src e (w.alloc (.cells ds.toArray te)) lo (.slice (some ⟨g, 0, none⟩) 1 c) [d] := by subst hg; exact Src.lit te how hf
theorem Src.drew {e : Ty} {w : World} {lo : Nat} {u : Value} {y : List e.D} (h : Src e w lo u y) : Src e w.drew lo u y := by
  obtain ⟨A, c, fs, h1, h2, h3⟩ := h
  refine ⟨A, c, fs, h1, h2, fun h0 => ?_⟩
  obtain ⟨b, o, h4, h5⟩ := h3 h0
  exact ⟨b, o, h4, fun i hi => by obtain ⟨ds, g1, g2, g3⟩ := h5 i hi; exact ⟨ds, g1, g2, Ty.ow_bel (bel_drew (Below.refl _ _)) g3⟩⟩
/-- A row of elements with memory of their own. -/
def DRow (e : Ty) (w : World) (base : Nat) (te : TypeId) (v : Value) (x : List e.D) : Prop :=
  ∃ (css : Nat → List Value) (fs : Nat → List Nat), w.ownsRow base te e.sz v x.length ((List.range x.length).flatMap css) ∧
    (∀ i (h : i < x.length), (css i).length = e.sz ∧ e.ow w (css i) x[i] (fs i)) ∧
    FrI base w.heap.size ((List.range x.length).flatMap fs) ∧ (∀ g, v.ownBlock = some g → g ∉ (List.range x.length).flatMap fs)
theorem DRow.nil (e : Ty) (w : World) (base : Nat) (te : TypeId) : DRow e w base te (.slice none 0 0) [] :=
  ⟨fun _ => [], fun _ => [], World.ownsRow_nil w base te e.sz, fun i h => absurd h (by simp), FrI.nil _ _, fun g h => by cases h⟩
theorem DRow.lit0 (e : Ty) (w : World) (te : TypeId) {base : Nat} (hb : base ≤ w.heap.size) : DRow e (w.alloc (.cells #[] te)) base te (.slice (some ⟨w.heap.size, 0, none⟩) 0 0) [] :=
  ⟨fun _ => [], fun _ => [], World.ownsRow_lit w #[] 0 hb (by unfold maxLen; omega) (by simp), fun i h => absurd h (by simp), FrI.nil _ _, fun g h => by simp⟩
section
variable {e : Ty} {w w' : World} {base : Nat} {te : TypeId} {v : Value} {x : List e.D}
theorem DRow.block (h : DRow e w base te v x) : ∀ g, v.ownBlock = some g → base ≤ g ∧ g < w.heap.size := by
  obtain ⟨css, fs, h, _⟩ := h
  exact h.lt
theorem DRow.below (h : DRow e w base te v x) (hb : Below w.heap.size w w') : DRow e w' base te v x := by
  obtain ⟨css, fs, h1, h2, h3, h4⟩ := h
  refine ⟨css, fs, ⟨h1.1, ?_⟩, fun i hi => ⟨(h2 i hi).1, Ty.ow_bel hb (h2 i hi).2⟩, h3.mono (Nat.le_refl _) hb.size, h4⟩
  rcases h1.2 with hn | ⟨g, cap, cur, rfl, hbg, hgg, rest⟩
  · exact .inl hn
  · exact .inr ⟨g, cap, cur, rfl, hbg, (hb.block g (Blk.lt (t := te) (cs := cur) hgg)).trans hgg, rest⟩
theorem DRow.mono {base' : Nat} (h : DRow e w base te v x) (hb : base' ≤ base) : DRow e w base' te v x := by
  obtain ⟨css, fs, h1, h2, h3, h4⟩ := h
  refine ⟨css, fs, ⟨h1.1, ?_⟩, h2, h3.mono hb (Nat.le_refl _), h4⟩
  rcases h1.2 with hn | ⟨g, cap, cur, rfl, hbg, hgg, rest⟩
  · exact .inl hn
  · exact .inr ⟨g, cap, cur, rfl, Nat.le_trans hb hbg, hgg, rest⟩
theorem DRow.le (h : DRow e w base te v x) : x.length ≤ maxLen := by
  obtain ⟨css, fs, h, _⟩ := h
  rcases h.2 with ⟨_, hn⟩ | ⟨g, cap, cur, _, _, _, h1, h2, _⟩
  · rw [hn]; exact Nat.zero_le _
  · exact Nat.le_trans h1 h2
theorem DRow.own (h : DRow e w base te v x) : ∃ A c fp, v = .slice A x.length c ∧ (Ty.sl e).ow w [v] x fp ∧ FrI base w.heap.size fp := by
  have hl := h.le
  unfold maxLen at hl
  obtain ⟨css, fs, h1, h2, h3, h4⟩ := h
  rcases h1.2 with ⟨rfl, hn⟩ | ⟨g, cap, cur, rfl, hbg, hg, hnc, hcm, hcs, htake⟩
  · have hx : x = [] := List.eq_nil_of_length_eq_zero hn
    subst hx
    exact ⟨none, 0, [], rfl, ⟨none, 0, rfl, by simp, ⟨by unfold maxLen; omega, fun _ => rfl⟩, by simp, .inl ⟨rfl, rfl⟩⟩, FrI.nil _ _⟩
  · have hlt : g < w.heap.size := Blk.lt (t := te) (cs := cur) hg
    by_cases h0 : x.length = 0
    · exact ⟨_, _, [], rfl, ⟨_, _, rfl, hnc, ⟨hcm, fun h => by cases h⟩, by omega, .inl ⟨h0, rfl⟩⟩, FrI.nil _ _⟩
    · have hg4 := h4 g rfl
      refine ⟨_, _, g :: (List.range x.length).flatMap fs, rfl, ⟨_, _, rfl, hnc, ⟨hcm, fun h => by cases h⟩, by omega, .inr ⟨by show 0 < x.length; omega, g, 0, fs, rfl, rfl, fun i hi => ?_⟩⟩, ?_⟩
      · refine ⟨css i, (h2 i hi).1, fun j hj => ⟨?_, ?_⟩, (h2 i hi).2⟩
        · have h5 : (i + 1) * e.sz ≤ x.length * e.sz := Nat.mul_le_mul_right _ hi
          rw [Nat.succ_mul] at h5
          rw [Nat.zero_add, h1.cellAt (i * e.sz + j) (by omega)]
          exact fmr_get css e.sz x.length (fun i hi => (h2 i hi).1) i j hi hj
        · exact Blk.frozen (t := te) (cs := cur) hg _
      · refine ⟨List.nodup_cons.2 ⟨hg4, h3.1⟩, fun b hb' => ?_⟩
        rcases List.mem_cons.1 hb' with rfl | hb'
        · exact ⟨hbg, hlt⟩
        · exact h3.2 b hb'
theorem DRow.rd (h : DRow e w base te v x) : (Ty.sl e).rd w [v] x := by
  obtain ⟨A, c, fp, _, how, _⟩ := h.own
  exact Ty.ow_rd how
theorem DRow.form (h : DRow e w base te v x) : ∃ A c, v = .slice A x.length c := by
  obtain ⟨A, c, fp, hv, _⟩ := h.own
  exact ⟨A, c, hv⟩
end

theorem ownsRow_below {w w' : World} {base : Nat} {te : TypeId} {sz : Nat} {v : Value} {n : Nat} {xs : List Value} (h1 : w.ownsRow base te sz v n xs) (hb : Below w.heap.size w w') : w'.ownsRow base te sz v n xs := by
  refine ⟨h1.1, ?_⟩
  rcases h1.2 with hn | ⟨g, cap, cur, rfl, hbg, hgg, rest⟩
  · exact .inl hn
  · exact .inr ⟨g, cap, cur, rfl, hbg, (hb.block g (Blk.lt (t := te) (cs := cur) hgg)).trans hgg, rest⟩
theorem run_append_drow {P : Program} {w0 w : World} {e : Ty} (base : Nat) (t ty te : TypeId) {z : Value} {by_ : Nat} (hinfo : (P.info? te).map (fun i => (i.zero, i.size, i.bytes)) = some (some z, e.sz, by_)) (hz1 : z.cells.size = e.sz) (ht : P.underlying t = some (.slice te))
    (v u : Value) (x y : List e.D) (hown : DRow e w0 base te v x) (hbel : Below w0.heap.size w0 w) (hy : Src e w w0.heap.size u y) (hbytes : (x.length + y.length) * by_ ≤ 140737488355328) (hlen : x.length + y.length ≤ maxLen) (hbase : base ≤ w0.heap.size) :
    ∃ v' w', (Builtin.append_ #[t, t] ty #[v, u]).run P w = .ok v' w' ∧ DRow e w' base te v' (x ++ y) ∧ w.grownBy w' v.ownBlock := by
  obtain ⟨i, hi, hzz⟩ := Option.map_eq_some_iff.1 hinfo
  simp only [Prod.mk.injEq] at hzz
  obtain ⟨hz, hsz, hby⟩ := hzz
  have hlt0 := hown.block
  obtain ⟨css, fs, h1, h2, h3, h4⟩ := hown
  have h1' := ownsRow_below h1 hbel
  obtain ⟨A, c, fs', rfl, hfr', hel⟩ := hy
  by_cases h0 : y.length = 0
  · have hy0 : y = [] := List.eq_nil_of_length_eq_zero h0
    subst hy0
    refine ⟨v, w, run_append_zero base t ty te i e.sz ht hi v _ _ h1' A c, ?_, World.grownBy.refl _ _⟩
    rw [List.append_nil]
    exact DRow.below ⟨css, fs, h1, h2, h3, h4⟩ hbel
  · obtain ⟨b, o, rfl, hel2⟩ := hel (by omega)
    have hpos := Ty.sz_pos e
    have hds : ∃ dss : Nat → List Value, ∀ i (h : i < y.length), (dss i).length = e.sz ∧ (∀ j, j < e.sz → w.cell? ⟨b, o + i * e.sz + j, none⟩ = (dss i)[j]?) ∧ e.ow w (dss i) y[i] (fs' i) := by
      refine ⟨fun i => if h : i < y.length then (hel2 i h).choose else [], fun i h => ?_⟩
      simp only [dif_pos h]
      exact (hel2 i h).choose_spec
    obtain ⟨dss, hd⟩ := hds
    have hl : ((List.range y.length).flatMap dss).length = y.length * e.sz := fmr_len dss e.sz y.length (fun i hi => (hd i hi).1)
    have hcells : ∀ j u, ((List.range y.length).flatMap dss)[j]? = some u → w.cell? ((⟨b, o, none⟩ : Addr).add j) = some u := by
      intro j u hj
      have hjl : j < y.length * e.sz := by rw [← hl]; exact (List.getElem?_eq_some_iff.1 hj).1
      have hdiv : j / e.sz < y.length := (Nat.div_lt_iff_lt_mul hpos).2 hjl
      have hmod : j % e.sz < e.sz := Nat.mod_lt _ hpos
      have hjj : j / e.sz * e.sz + j % e.sz = j := by rw [Nat.mul_comm]; exact Nat.div_add_mod j e.sz
      have h5 := (hd _ hdiv).2.1 _ hmod
      have h6 := fmr_get dss e.sz y.length (fun i hi => (hd i hi).1) _ _ hdiv hmod
      rw [hjj, hj] at h6
      rw [Addr.add_lit, show o + j = o + j / e.sz * e.sz + j % e.sz from by omega, h5, ← h6]
    have hones : ∀ u ∈ (List.range y.length).flatMap dss, u.oneCell' = true := by
      intro u hu
      obtain ⟨k, hk, hu⟩ := List.mem_flatMap.1 hu
      exact Ty.ow_ones (hd k (List.mem_range.1 hk)).2.2 u hu
    obtain ⟨v', w', hr, g1, g2, _, g3⟩ := run_append_own_at (P := P) w base t ty te i z e.sz by_ ht hi hz hsz hby hz1 hpos v x.length _ h1' ⟨b, o, none⟩ y.length c ((List.range y.length).flatMap dss) hl hcells hones hlen hbytes (Nat.le_trans hbase hbel.size)
    refine ⟨v', w', hr, ⟨glue x.length css dss, glue x.length fs fs', ?_, ?_, ?_, ?_⟩, g2⟩
    · rw [List.length_append, fmr_glue]; exact g1
    · intro k hk
      by_cases hkx : k < x.length
      · rw [glue_lt hkx, glue_lt hkx, List.getElem_append_left hkx]
        refine ⟨(h2 k hkx).1, Ty.ow_keep (fun b' hb' => ?_) (h2 k hkx).2⟩
        have hm : b' ∈ (List.range x.length).flatMap fs := List.mem_flatMap.2 ⟨k, List.mem_range.2 hkx, hb'⟩
        have h5 := h3.2 b' hm
        exact (g2.block b' (Nat.lt_of_lt_of_le h5.2 hbel.size) (fun e' => h4 b' e'.symm hm)).trans (hbel.block b' h5.2)
      · obtain ⟨m, rfl⟩ : ∃ m, k = x.length + m := ⟨k - x.length, by omega⟩
        have hm : m < y.length := by rw [List.length_append] at hk; omega
        rw [glue_ge, glue_ge, List.getElem_append_right (by omega)]
        simp only [Nat.add_sub_cancel_left]
        refine ⟨(hd m hm).1, Ty.ow_keep (fun b' hb' => ?_) (hd m hm).2.2⟩
        have hm' : b' ∈ (List.range y.length).flatMap fs' := List.mem_flatMap.2 ⟨m, List.mem_range.2 hm, hb'⟩
        have h5 := hfr'.2 b' hm'
        exact g2.block b' h5.2 (fun e' => by have := hlt0 b' e'.symm; omega)
    · rw [List.length_append, fmr_glue]
      exact FrI.app h3 (hfr'.mono (Nat.le_refl _) g2.size) (Nat.le_refl _) hbase (Nat.le_trans hbel.size g2.size)
    · intro g hg hmem
      rw [List.length_append, fmr_glue] at hmem
      have hs := hbel.size
      rcases g3 with g3 | g3
      · rw [g3] at hg
        have := hlt0 g hg
        rcases List.mem_append.1 hmem with hm | hm
        · exact h4 g hg hm
        · have := hfr'.2 g hm; omega
      · rw [g3] at hg
        have hg' : w.heap.size = g := by simpa using hg
        rcases List.mem_append.1 hmem with hm | hm
        · have := h3.2 g hm; omega
        · have := hfr'.2 g hm; omega

/-- 'append(out, y...)' for the walk. -/
theorem wpList_append_drow {P : Program} {w : World} {ops : Array Oper} {rest : List Oper} {o : Oper} {a : Act} {Q : Exit → Act → World → Prop} (hgd : o.guard = none) (s xo : Operand) (t : TypeId)
    (ho : o.op = .call { callee := .builtin .append, args := #[s, xo], argTypes := #[t, t] }) {e : Ty} (w0 : World) (base : Nat) (te : TypeId) {z : Value} {by_ : Nat}
    (hinfo : (P.info? te).map (fun i => (i.zero, i.size, i.bytes)) = some (some z, e.sz, by_)) (hz1 : z.cells.size = e.sz) (ht : P.underlying t = some (.slice te))
    (v u : Value) (x y : List e.D) (hs : a.eval s = v) (hx : a.eval xo = u) (hown : DRow e w0 base te v x) (hbel : Below w0.heap.size w0 w) (hy : Src e w w0.heap.size u y) (hbytes : (x.length + y.length) * by_ ≤ 140737488355328) (hlen : x.length + y.length ≤ maxLen) (hbase : base ≤ w0.heap.size)
    (h : ∀ v' w', DRow e w' base te v' (x ++ y) → w.grownBy w' v.ownBlock → wpList P ops Q rest (a.put o.dst v') w') : wpList P ops Q (o :: rest) a w := by
  obtain ⟨v', w', hr, h2, h3⟩ := run_append_drow (P := P) base t o.type te hinfo hz1 ht v u x y hown hbel hy hbytes hlen hbase
  refine wpList_plain hgd fun K hK => ?_
  unfold Oper.wp execOp
  simp only [ho, resolve, invoke, builtin, Sem.run_bind, Sem.run_pure, Result.andThen_ok, List.map_toArray, List.map_cons, List.map_nil, hs, hx, hr]
  exact hK _ _ (h v' w' h2 h3)
theorem step_append_drow {P : Program} {w : World} {ops : Array Oper} {o : Oper} {a : Act} {K : Act → World → Prop} {Q : Exit → Act → World → Prop} {E : Prop} (hgd : o.guard = none) (s xo : Operand) (t : TypeId)
    (ho : o.op = .call { callee := .builtin .append, args := #[s, xo], argTypes := #[t, t] }) {e : Ty} (w0 : World) (base : Nat) (te : TypeId) {z : Value} {by_ : Nat}
    (hinfo : (P.info? te).map (fun i => (i.zero, i.size, i.bytes)) = some (some z, e.sz, by_)) (hz1 : z.cells.size = e.sz) (ht : P.underlying t = some (.slice te))
    (v u : Value) (x y : List e.D) (hs : a.eval s = v) (hx : a.eval xo = u) (hown : DRow e w0 base te v x) (hbel : Below w0.heap.size w0 w) (hy : Src e w w0.heap.size u y) (hbytes : (x.length + y.length) * by_ ≤ 140737488355328) (hlen : x.length + y.length ≤ maxLen) (hbase : base ≤ w0.heap.size)
    (h : ∀ v' w', DRow e w' base te v' (x ++ y) → w.grownBy w' v.ownBlock → K (a.put o.dst v') w') :
    if Region.wanted o (yielded ops a.tmps) = true then Oper.wp P o a w K Q else E := by
  have hw : Region.wanted o (yielded ops a.tmps) = true := by simp [Region.wanted, hgd]
  rw [if_pos hw]
  obtain ⟨v', w', hr, h2, h3⟩ := run_append_drow (P := P) base t o.type te hinfo hz1 ht v u x y hown hbel hy hbytes hlen hbase
  unfold Oper.wp execOp
  simp only [ho, resolve, invoke, builtin, Sem.run_bind, Sem.run_pure, Result.andThen_ok, List.map_toArray, List.map_cons, List.map_nil, hs, hx, hr]
  exact h v' w' h2 h3

/-- A call that hands back a row of its own. -/
def RetDRow (e : Ty) (w : World) (te : TypeId) (x : List e.D) (r : Ending) (w' : World) : Prop :=
  ∃ v, r = .returned v ∧ DRow e w' w.heap.size te v x ∧ Below w.heap.size w w'
theorem RetDRow.sl {e : Ty} {w : World} {te : TypeId} {x : List e.D} {r : Ending} {w' : World} (h : RetDRow e w te x r w') : RetSl w e x r w' := by
  obtain ⟨v, rfl, hr, hb⟩ := h
  obtain ⟨A, c, fp, rfl, how, hfr⟩ := hr.own
  exact ⟨A, c, fp, rfl, how, hfr, hb⟩
end Go.Proofs.Ytldgbnlcnlfmeaa
