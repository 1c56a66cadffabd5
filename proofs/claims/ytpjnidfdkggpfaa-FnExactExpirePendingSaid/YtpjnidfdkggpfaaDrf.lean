/- Rows of structs with memory of their own, the blocks told. No program in sight. -/
import Derived.Test.YtpjnidfdkggpfaaDrw
namespace Go.Proofs.Ytpjnidfdkggpfaa
open Go.RowKit
set_option linter.unusedVariables false
set_option linter.unusedSimpArgs false

/-- What an append takes in, its blocks told. -/
def SrcF (e : Ty) (w : World) (u : Value) (y : List e.D) (fp : List Nat) : Prop :=
  ∃ A c fs, u = .slice A y.length c ∧ fp = (List.range y.length).flatMap fs ∧
    (0 < y.length → ∃ b o, A = some ⟨b, o, none⟩ ∧ ∀ i (h : i < y.length), ∃ ds : List Value, ds.length = e.sz ∧ (∀ j, j < e.sz → w.cell? ⟨b, o + i * e.sz + j, none⟩ = ds[j]?) ∧ e.ow w ds y[i] (fs i))
theorem SrcF.lit {e : Ty} {w : World} {c g : Nat} (te : TypeId) {ds : List Value} {d : e.D} {f : List Nat} (how : e.ow w ds d f) (hg : g = w.heap.size) :
    SrcF e (w.alloc (.cells ds.toArray te)) (.slice (some ⟨g, 0, none⟩) 1 c) [d] f := by
  subst hg
  refine ⟨_, c, fun _ => f, rfl, by simp, fun _ => ⟨_, _, rfl, fun i hi => ?_⟩⟩
  obtain rfl : i = 0 := by simpa using hi
  exact ⟨ds, Ty.ow_len how, fun j hj => by rw [Nat.zero_mul, Nat.add_zero, Nat.zero_add]; exact (cell_new w te ds.toArray j rfl).trans (by simp), Ty.ow_bel ((Below.refl _ _).alloc (Nat.le_refl _) _) how⟩
/-- A row of elements whose memory lies in the blocks fp. -/
def DRowF (e : Ty) (w : World) (base : Nat) (te : TypeId) (v : Value) (x : List e.D) (fp : List Nat) : Prop :=
  ∃ (css : Nat → List Value) (fs : Nat → List Nat), w.ownsRow base te e.sz v x.length ((List.range x.length).flatMap css) ∧
    (∀ i (h : i < x.length), (css i).length = e.sz ∧ e.ow w (css i) x[i] (fs i)) ∧
    fp = (List.range x.length).flatMap fs ∧ (∀ g, v.ownBlock = some g → g ∉ fp)
theorem DRowF.lit0 (e : Ty) (w : World) (te : TypeId) {base : Nat} (hb : base ≤ w.heap.size) : DRowF e (w.alloc (.cells #[] te)) base te (.slice (some ⟨w.heap.size, 0, none⟩) 0 0) [] [] :=
  ⟨fun _ => [], fun _ => [], World.ownsRow_lit w #[] 0 hb (by unfold maxLen; omega) (by simp), fun i h => absurd h (by simp), rfl, fun g h => by simp⟩
section
variable {e : Ty} {w w' : World} {base : Nat} {te : TypeId} {v : Value} {x : List e.D} {fp : List Nat}
theorem DRowF.drow (h : DRowF e w base te v x fp) (hf : FrI base w.heap.size fp) : DRow e w base te v x := by
  obtain ⟨css, fs, h1, h2, h3, h4⟩ := h
  subst h3
  exact ⟨css, fs, h1, h2, hf, h4⟩
theorem DRowF.block (h : DRowF e w base te v x fp) : ∀ g, v.ownBlock = some g → base ≤ g ∧ g < w.heap.size := by
  obtain ⟨css, fs, h, _⟩ := h
  exact h.lt
/-- The row stays as long as its own block and the blocks of its elements stay. -/
theorem DRowF.keep (h : DRowF e w base te v x fp) (hsz : w.heap.size ≤ w'.heap.size) (hk : ∀ b, b ∈ fp → w'.heap[b]? = w.heap[b]?) (ho : ∀ g, v.ownBlock = some g → w'.heap[g]? = w.heap[g]?) : DRowF e w' base te v x fp := by
  obtain ⟨css, fs, h1, h2, h3, h4⟩ := h
  refine ⟨css, fs, ⟨h1.1, ?_⟩, fun i hi => ⟨(h2 i hi).1, Ty.ow_keep (fun b hb' => hk b ?_) (h2 i hi).2⟩, h3, h4⟩
  · rcases h1.2 with hn | ⟨g, cap, cur, rfl, hbg, hgg, rest⟩
    · exact .inl hn
    · exact .inr ⟨g, cap, cur, rfl, hbg, (ho g rfl).trans hgg, rest⟩
  · rw [h3]; exact List.mem_flatMap.2 ⟨i, List.mem_range.2 hi, hb'⟩
theorem DRowF.mem_lt (h : DRowF e w base te v x fp) : ∀ b ∈ fp, b < w.heap.size := by
  obtain ⟨css, fs, h1, h2, h3, h4⟩ := h
  intro b hb
  rw [h3] at hb
  obtain ⟨i, hi, hb⟩ := List.mem_flatMap.1 hb
  exact Ty.ow_lt (h2 i (List.mem_range.1 hi)).2 b hb
theorem DRowF.below (h : DRowF e w base te v x fp) (hb : Below w.heap.size w w') : DRowF e w' base te v x fp :=
  h.keep hb.size (fun b hm => hb.block b (h.mem_lt b hm)) (fun g hg => hb.block g (h.block g hg).2)
end
theorem run_append_drowF {P : Program} {w : World} {e : Ty} (base : Nat) (t ty te : TypeId) {z : Value} {by_ : Nat} (hinfo : (P.info? te).map (fun i => (i.zero, i.size, i.bytes)) = some (some z, e.sz, by_)) (hz1 : z.cells.size = e.sz) (ht : P.underlying t = some (.slice te))
    (v u : Value) (x y : List e.D) (fp fq : List Nat) (hown : DRowF e w base te v x fp) (hy : SrcF e w u y fq) (hvy : ∀ g, v.ownBlock = some g → g ∉ fq) (hbytes : (x.length + y.length) * by_ ≤ 140737488355328) (hlen : x.length + y.length ≤ maxLen) (hbase : base ≤ w.heap.size) :
    ∃ v' w', (Builtin.append_ #[t, t] ty #[v, u]).run P w = .ok v' w' ∧ DRowF e w' base te v' (x ++ y) (fp ++ fq) ∧ w.grownBy w' v.ownBlock ∧ (v'.ownBlock = v.ownBlock ∨ v'.ownBlock = some w.heap.size) := by
  obtain ⟨i, hi, hzz⟩ := Option.map_eq_some_iff.1 hinfo
  simp only [Prod.mk.injEq] at hzz
  obtain ⟨hz, hsz, hby⟩ := hzz
  have hlt0 := hown.block
  have hmem := hown.mem_lt
  obtain ⟨css, fs, h1, h2, h3, h4⟩ := hown
  obtain ⟨A, c, fs', rfl, hfq, hel⟩ := hy
  by_cases h0 : y.length = 0
  · have hy0 : y = [] := List.eq_nil_of_length_eq_zero h0
    subst hy0
    have hfq0 : fq = [] := hfq
    subst hfq0
    refine ⟨v, w, run_append_zero base t ty te i e.sz ht hi v _ _ h1 A c, ?_, World.grownBy.refl _ _, .inl rfl⟩
    rw [List.append_nil, List.append_nil]
    exact ⟨css, fs, h1, h2, h3, h4⟩
  · obtain ⟨b, o, rfl, hel2⟩ := hel (by omega)
    have hpos := Ty.sz_pos e
    have hds : ∃ dss : Nat → List Value, ∀ i (h : i < y.length), (dss i).length = e.sz ∧ (∀ j, j < e.sz → w.cell? ⟨b, o + i * e.sz + j, none⟩ = (dss i)[j]?) ∧ e.ow w (dss i) y[i] (fs' i) := by
      refine ⟨fun i => if h : i < y.length then (hel2 i h).choose else [], fun i h => ?_⟩
      simp only [dif_pos h]
      exact (hel2 i h).choose_spec
    obtain ⟨dss, hd⟩ := hds
    have hqlt : ∀ b ∈ fq, b < w.heap.size := by
      intro b' hb'
      rw [hfq] at hb'
      obtain ⟨i, hi, hb'⟩ := List.mem_flatMap.1 hb'
      exact Ty.ow_lt (hd i (List.mem_range.1 hi)).2.2 b' hb'
    have hl : ((List.range y.length).flatMap dss).length = y.length * e.sz := fmr_len dss e.sz y.length (fun i hi => (hd i hi).1)
    have hcells : ∀ j u, ((List.range y.length).flatMap dss)[j]? = some u → w.cell? ((⟨b, o, none⟩ : Addr).add j) = some u := by
      intro j u hj
      have hjl : j < y.length * e.sz := by rw [← hl]; exact (List.getElem?_eq_some_iff.1 hj).1
      have hdiv : j / e.sz < y.length := (Nat.div_lt_iff_lt_mul hpos).2 hjl
      have hmod : j % e.sz < e.sz := Nat.mod_lt _ hpos
      have hjj : j / e.sz * e.sz + j % e.sz = j := by rw [Nat.mul_comm]; exact Nat.div_add_mod j e.sz
      have h5 := (hd _ hdiv).2.1 _ hmod
      have h6 := fmr_get dss e.sz y.length (fun i hi => (hd i hi).1) _ _ hdiv hmod
      rw [hjj, hj] at h6
      rw [Addr.add_lit, show o + j = o + j / e.sz * e.sz + j % e.sz from by omega, h5, ← h6]
    have hones : ∀ u ∈ (List.range y.length).flatMap dss, u.oneCell' = true := by
      intro u hu
      obtain ⟨k, hk, hu⟩ := List.mem_flatMap.1 hu
      exact Ty.ow_ones (hd k (List.mem_range.1 hk)).2.2 u hu
    obtain ⟨v', w', hr, g1, g2, _, g3⟩ := run_append_own_at (P := P) w base t ty te i z e.sz by_ ht hi hz hsz hby hz1 hpos v x.length _ h1 ⟨b, o, none⟩ y.length c ((List.range y.length).flatMap dss) hl hcells hones hlen hbytes hbase
    refine ⟨v', w', hr, ⟨glue x.length css dss, glue x.length fs fs', ?_, ?_, ?_, ?_⟩, g2, g3⟩
    · rw [List.length_append, fmr_glue]; exact g1
    · intro k hk
      by_cases hkx : k < x.length
      · rw [glue_lt hkx, glue_lt hkx, List.getElem_append_left hkx]
        refine ⟨(h2 k hkx).1, Ty.ow_keep (fun b' hb' => ?_) (h2 k hkx).2⟩
        have hm : b' ∈ fp := by rw [h3]; exact List.mem_flatMap.2 ⟨k, List.mem_range.2 hkx, hb'⟩
        exact g2.block b' (hmem b' hm) (fun e' => h4 b' e'.symm hm)
      · obtain ⟨m, rfl⟩ : ∃ m, k = x.length + m := ⟨k - x.length, by omega⟩
        have hm : m < y.length := by rw [List.length_append] at hk; omega
        rw [glue_ge, glue_ge, List.getElem_append_right (by omega)]
        simp only [Nat.add_sub_cancel_left]
        refine ⟨(hd m hm).1, Ty.ow_keep (fun b' hb' => ?_) (hd m hm).2.2⟩
        have hm' : b' ∈ fq := by rw [hfq]; exact List.mem_flatMap.2 ⟨m, List.mem_range.2 hm, hb'⟩
        exact g2.block b' (hqlt b' hm') (fun e' => hvy b' e'.symm hm')
    · rw [List.length_append, fmr_glue, h3, hfq]
    · intro g hg hmem'
      rcases g3 with g3 | g3
      · rw [g3] at hg
        rcases List.mem_append.1 hmem' with hm | hm
        · exact h4 g hg hm
        · exact hvy g hg hm
      · rw [g3] at hg
        have hg' : w.heap.size = g := by simpa using hg
        rcases List.mem_append.1 hmem' with hm | hm
        · have := hmem g hm; omega
        · have := hqlt g hm; omega
/-- 'append(out, y...)' for the walk. -/
theorem wpList_append_drowF {P : Program} {w : World} {ops : Array Oper} {rest : List Oper} {o : Oper} {a : Act} {Q : Exit → Act → World → Prop} (hgd : o.guard = none) (s xo : Operand) (t : TypeId)
    (ho : o.op = .call { callee := .builtin .append, args := #[s, xo], argTypes := #[t, t] }) {e : Ty} (base : Nat) (te : TypeId) {z : Value} {by_ : Nat}
    (hinfo : (P.info? te).map (fun i => (i.zero, i.size, i.bytes)) = some (some z, e.sz, by_)) (hz1 : z.cells.size = e.sz) (ht : P.underlying t = some (.slice te))
    (v u : Value) (x y : List e.D) (fp fq : List Nat) (hs : a.eval s = v) (hx : a.eval xo = u) (hown : DRowF e w base te v x fp) (hy : SrcF e w u y fq) (hvy : ∀ g, v.ownBlock = some g → g ∉ fq) (hbytes : (x.length + y.length) * by_ ≤ 140737488355328) (hlen : x.length + y.length ≤ maxLen) (hbase : base ≤ w.heap.size)
    (h : ∀ v' w', DRowF e w' base te v' (x ++ y) (fp ++ fq) → w.grownBy w' v.ownBlock → (v'.ownBlock = v.ownBlock ∨ v'.ownBlock = some w.heap.size) → wpList P ops Q rest (a.put o.dst v') w') : wpList P ops Q (o :: rest) a w := by
  obtain ⟨v', w', hr, h2, h3, h4⟩ := run_append_drowF (P := P) base t o.type te hinfo hz1 ht v u x y fp fq hown hy hvy hbytes hlen hbase
  refine wpList_plain hgd fun K hK => ?_
  unfold Oper.wp execOp
  simp only [ho, resolve, invoke, builtin, Sem.run_bind, Sem.run_pure, Result.andThen_ok, List.map_toArray, List.map_cons, List.map_nil, hs, hx, hr]
  exact hK _ _ (h v' w' h2 h3 h4)
end Go.Proofs.Ytpjnidfdkggpfaa
