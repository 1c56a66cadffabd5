/- Texts of this claim, merged by a program: Drf Drg Cpd Enc Apn Mac Cat. -/
import Derived.Test.YtldgbnlcnlfmeaaMo1
import Derived.Test.YtldgbnlcnlfmeaaMo3
import Derived.Test.YtldgbnlcnlfmeaaMo2
import Derived.Laws.IdiomStrings
import Derived.Lib.AppendZeros
/- Rows of structs with memory of their own, the blocks told. No program in sight. -/
namespace Go.Proofs.Ytldgbnlcnlfmeaa
open Go.RowKit
set_option linter.unusedVariables false
set_option linter.unusedSimpArgs false

/-- What an append takes in, its blocks told. -/
def SrcF (e : Ty) (w : World) (u : Value) (y : List e.D) (fp : List Nat) : Prop :=
  ∃ A c fs, u = .slice A y.length c ∧ fp = (List.range y.length).flatMap fs ∧
    (0 < y.length → ∃ b o, A = some ⟨b, o, none⟩ ∧ ∀ i (h : i < y.length), ∃ ds : List Value, ds.length = e.sz ∧ (∀ j, j < e.sz → w.cell? ⟨b, o + i * e.sz + j, none⟩ = ds[j]?) ∧ e.ow w ds y[i] (fs i))
theorem SrcF.lit {e : Ty} {w : World} {c g : Nat} (te : TypeId) {ds : List Value} {d : e.D} {f : List Nat} (how : e.ow w ds d f) (hg : g = w.heap.size) :
    SrcF e (w.alloc (.cells ds.toArray te)) (.slice (some ⟨g, 0, none⟩) 1 c) [d] f := by
  subst hg
  refine ⟨_, c, fun _ => f, rfl, by simp, fun _ => ⟨_, _, rfl, fun i hi => ?_⟩⟩
  obtain rfl : i = 0 := by simpa using hi
  exact ⟨ds, Ty.ow_len how, fun j hj => by rw [Nat.zero_mul, Nat.add_zero, Nat.zero_add]; exact (cell_new w te ds.toArray j rfl).trans (by simp), Ty.ow_bel ((Below.refl _ _).alloc (Nat.le_refl _) _) how⟩
/-- A row of elements whose memory lies in the blocks fp. -/
def DRowF (e : Ty) (w : World) (base : Nat) (te : TypeId) (v : Value) (x : List e.D) (fp : List Nat) : Prop :=
  ∃ (css : Nat → List Value) (fs : Nat → List Nat), w.ownsRow base te e.sz v x.length ((List.range x.length).flatMap css) ∧
    (∀ i (h : i < x.length), (css i).length = e.sz ∧ e.ow w (css i) x[i] (fs i)) ∧
    fp = (List.range x.length).flatMap fs ∧ (∀ g, v.ownBlock = some g → g ∉ fp)
theorem DRowF.lit0 (e : Ty) (w : World) (te : TypeId) {base : Nat} (hb : base ≤ w.heap.size) : DRowF e (w.alloc (.cells #[] te)) base te (.slice (some ⟨w.heap.size, 0, none⟩) 0 0) [] [] :=
  ⟨fun _ => [], fun _ => [], World.ownsRow_lit w #[] 0 hb (by unfold maxLen; omega) (by simp), fun i h => absurd h (by simp), rfl, fun g h => by simp⟩
section
variable {e : Ty} {w w' : World} {base : Nat} {te : TypeId} {v : Value} {x : List e.D} {fp : List Nat}
theorem DRowF.drow (h : DRowF e w base te v x fp) (hf : FrI base w.heap.size fp) : DRow e w base te v x := by
  obtain ⟨css, fs, h1, h2, h3, h4⟩ := h
  subst h3
  exact ⟨css, fs, h1, h2, hf, h4⟩
theorem DRowF.block (h : DRowF e w base te v x fp) : ∀ g, v.ownBlock = some g → base ≤ g ∧ g < w.heap.size := by
  obtain ⟨css, fs, h, _⟩ := h
  exact h.lt
/-- The row stays as long as its own block and the blocks of its elements stay. -/
theorem DRowF.keep (h : DRowF e w base te v x fp) (hsz : w.heap.size ≤ w'.heap.size) (hk : ∀ b, b ∈ fp → w'.heap[b]? = w.heap[b]?) (ho : ∀ g, v.ownBlock = some g → w'.heap[g]? = w.heap[g]?) : DRowF e w' base te v x fp := by
  obtain ⟨css, fs, h1, h2, h3, h4⟩ := h
  refine ⟨css, fs, ⟨h1.1, ?_⟩, fun i hi => ⟨(h2 i hi).1, Ty.ow_keep (fun b hb' => hk b ?_) (h2 i hi).2⟩, h3, h4⟩
  · rcases h1.2 with hn | ⟨g, cap, cur, rfl, hbg, hgg, rest⟩
    · exact .inl hn
    · exact .inr ⟨g, cap, cur, rfl, hbg, (ho g rfl).trans hgg, rest⟩
  · rw [h3]; exact List.mem_flatMap.2 ⟨i, List.mem_range.2 hi, hb'⟩
theorem DRowF.mem_lt (h : DRowF e w base te v x fp) : ∀ b ∈ fp, b < w.heap.size := by
  obtain ⟨css, fs, h1, h2, h3, h4⟩ := h
  intro b hb
  rw [h3] at hb
  obtain ⟨i, hi, hb⟩ := List.mem_flatMap.1 hb
  exact Ty.ow_lt (h2 i (List.mem_range.1 hi)).2 b hb
theorem DRowF.below (h : DRowF e w base te v x fp) (hb : Below w.heap.size w w') : DRowF e w' base te v x fp :=
  h.keep hb.size (fun b hm => hb.block b (h.mem_lt b hm)) (fun g hg => hb.block g (h.block g hg).2)
end
theorem run_append_drowF {P : Program} {w : World} {e : Ty} (base : Nat) (t ty te : TypeId) {z : Value} {by_ : Nat} (hinfo : (P.info? te).map (fun i => (i.zero, i.size, i.bytes)) = some (some z, e.sz, by_)) (hz1 : z.cells.size = e.sz) (ht : P.underlying t = some (.slice te))
    (v u : Value) (x y : List e.D) (fp fq : List Nat) (hown : DRowF e w base te v x fp) (hy : SrcF e w u y fq) (hvy : ∀ g, v.ownBlock = some g → g ∉ fq) (hbytes : (x.length + y.length) * by_ ≤ 140737488355328) (hlen : x.length + y.length ≤ maxLen) (hbase : base ≤ w.heap.size) :
    ∃ v' w', (Builtin.append_ #[t, t] ty #[v, u]).run P w = .ok v' w' ∧ DRowF e w' base te v' (x ++ y) (fp ++ fq) ∧ w.grownBy w' v.ownBlock ∧ (v'.ownBlock = v.ownBlock ∨ v'.ownBlock = some w.heap.size) := by
  obtain ⟨i, hi, hzz⟩ := Option.map_eq_some_iff.1 hinfo
  simp only [Prod.mk.injEq] at hzz
  obtain ⟨hz, hsz, hby⟩ := hzz
  have hlt0 := hown.block
  have hmem := hown.mem_lt
  obtain ⟨css, fs, h1, h2, h3, h4⟩ := hown
  obtain ⟨A, c, fs', rfl, hfq, hel⟩ := hy
  by_cases h0 : y.length = 0
  · have hy0 : y = [] := List.eq_nil_of_length_eq_zero h0
    subst hy0
    have hfq0 : fq = [] := hfq
    subst hfq0
    refine ⟨v, w, run_append_zero base t ty te i e.sz ht hi v _ _ h1 A c, ?_, World.grownBy.refl _ _, .inl rfl⟩
    rw [List.append_nil, List.append_nil]
    exact ⟨css, fs, h1, h2, h3, h4⟩
  · obtain ⟨b, o, rfl, hel2⟩ := hel (by omega)
    have hpos := Ty.sz_pos e
    have hds : ∃ dss : Nat → List Value, ∀ i (h : i < y.length), (dss i).length = e.sz ∧ (∀ j, j < e.sz → w.cell? ⟨b, o + i * e.sz + j, none⟩ = (dss i)[j]?) ∧ e.ow w (dss i) y[i] (fs' i) := by
      refine ⟨fun i => if h : i < y.length then (hel2 i h).choose else [], fun i h => ?_⟩
      simp only [dif_pos h]
      exact (hel2 i h).choose_spec
    obtain ⟨dss, hd⟩ := hds
    have hqlt : ∀ b ∈ fq, b < w.heap.size := by
      intro b' hb'
      rw [hfq] at hb'
      obtain ⟨i, hi, hb'⟩ := List.mem_flatMap.1 hb'
      exact Ty.ow_lt (hd i (List.mem_range.1 hi)).2.2 b' hb'
    have hl : ((List.range y.length).flatMap dss).length = y.length * e.sz := fmr_len dss e.sz y.length (fun i hi => (hd i hi).1)
    have hcells : ∀ j u, ((List.range y.length).flatMap dss)[j]? = some u → w.cell? ((⟨b, o, none⟩ : Addr).add j) = some u := by
      intro j u hj
      have hjl : j < y.length * e.sz := by rw [← hl]; exact (List.getElem?_eq_some_iff.1 hj).1
      have hdiv : j / e.sz < y.length := (Nat.div_lt_iff_lt_mul hpos).2 hjl
      have hmod : j % e.sz < e.sz := Nat.mod_lt _ hpos
      have hjj : j / e.sz * e.sz + j % e.sz = j := by rw [Nat.mul_comm]; exact Nat.div_add_mod j e.sz
      have h5 := (hd _ hdiv).2.1 _ hmod
      have h6 := fmr_get dss e.sz y.length (fun i hi => (hd i hi).1) _ _ hdiv hmod
      rw [hjj, hj] at h6
      rw [Addr.add_lit, show o + j = o + j / e.sz * e.sz + j % e.sz from by omega, h5, ← h6]
    have hones : ∀ u ∈ (List.range y.length).flatMap dss, u.oneCell' = true := by
      intro u hu
      obtain ⟨k, hk, hu⟩ := List.mem_flatMap.1 hu
      exact Ty.ow_ones (hd k (List.mem_range.1 hk)).2.2 u hu
    obtain ⟨v', w', hr, g1, g2, _, g3⟩ := run_append_own_at (P := P) w base t ty te i z e.sz by_ ht hi hz hsz hby hz1 hpos v x.length _ h1 ⟨b, o, none⟩ y.length c ((List.range y.length).flatMap dss) hl hcells hones hlen hbytes hbase
    refine ⟨v', w', hr, ⟨glue x.length css dss, glue x.length fs fs', ?_, ?_, ?_, ?_⟩, g2, g3⟩
    · rw [List.length_append, fmr_glue]; exact g1
    · intro k hk
      by_cases hkx : k < x.length
      · rw [glue_lt hkx, glue_lt hkx, List.getElem_append_left hkx]
        refine ⟨(h2 k hkx).1, Ty.ow_keep (fun b' hb' => ?_) (h2 k hkx).2⟩
        have hm : b' ∈ fp := by rw [h3]; exact List.mem_flatMap.2 ⟨k, List.mem_range.2 hkx, hb'⟩
        exact g2.block b' (hmem b' hm) (fun e' => h4 b' e'.symm hm)
      · obtain ⟨m, rfl⟩ : ∃ m, k = x.length + m := ⟨k - x.length, by omega⟩
        have hm : m < y.length := by rw [List.length_append] at hk; omega
        rw [glue_ge, glue_ge, List.getElem_append_right (by omega)]
        simp only [Nat.add_sub_cancel_left]
        refine ⟨(hd m hm).1, Ty.ow_keep (fun b' hb' => ?_) (hd m hm).2.2⟩
        have hm' : b' ∈ fq := by rw [hfq]; exact List.mem_flatMap.2 ⟨m, List.mem_range.2 hm, hb'⟩
        exact g2.block b' (hqlt b' hm') (fun e' => hvy b' e'.symm hm')
    · rw [List.length_append, fmr_glue, h3, hfq]
    · intro g hg hmem'
      rcases g3 with g3 | g3
      · rw [g3] at hg
        rcases List.mem_append.1 hmem' with hm | hm
        · exact h4 g hg hm
        · exact hvy g hg hm
      · rw [g3] at hg
        have hg' : w.heap.size = g := by simpa using hg
        rcases List.mem_append.1 hmem' with hm | hm
        · have := hmem g hm; omega
        · have := hqlt g hm; omega
/-- 'append(out, y...)' for the walk. -/
theorem wpList_append_drowF {P : Program} {w : World} {ops : Array Oper} {rest : List Oper} {o : Oper} {a : Act} {Q : Exit → Act → World → Prop} (hgd : o.guard = none) (s xo : Operand) (t : TypeId)
    (ho : o.op = .call { callee := .builtin .append, args := #[s, xo], argTypes := #[t, t] }) {e : Ty} (base : Nat) (te : TypeId) {z : Value} {by_ : Nat}
    (hinfo : (P.info? te).map (fun i => (i.zero, i.size, i.bytes)) = some (some z, e.sz, by_)) (hz1 : z.cells.size = e.sz) (ht : P.underlying t = some (.slice te))
    (v u : Value) (x y : List e.D) (fp fq : List Nat) (hs : a.eval s = v) (hx : a.eval xo = u) (hown : DRowF e w base te v x fp) (hy : SrcF e w u y fq) (hvy : ∀ g, v.ownBlock = some g → g ∉ fq) (hbytes : (x.length + y.length) * by_ ≤ 140737488355328) (hlen : x.length + y.length ≤ maxLen) (hbase : base ≤ w.heap.size)
    (h : ∀ v' w', DRowF e w' base te v' (x ++ y) (fp ++ fq) → w.grownBy w' v.ownBlock → (v'.ownBlock = v.ownBlock ∨ v'.ownBlock = some w.heap.size) → wpList P ops Q rest (a.put o.dst v') w') : wpList P ops Q (o :: rest) a w := by
  obtain ⟨v', w', hr, h2, h3, h4⟩ := run_append_drowF (P := P) base t o.type te hinfo hz1 ht v u x y fp fq hown hy hvy hbytes hlen hbase
  refine wpList_plain hgd fun K hK => ?_
  unfold Oper.wp execOp
  simp only [ho, resolve, invoke, builtin, Sem.run_bind, Sem.run_pure, Result.andThen_ok, List.map_toArray, List.map_cons, List.map_nil, hs, hx, hr]
  exact hK _ _ (h v' w' h2 h3 h4)
end Go.Proofs.Ytldgbnlcnlfmeaa

/- Appends to a row behind draws. No program in sight. Printed by gen57.py. -/
namespace Go.Proofs.Ytldgbnlcnlfmeaa
open Go.RowKit
set_option linter.unusedVariables false
set_option linter.unusedSimpArgs false

theorem DRow.dr {e : Ty} {B : Nat} {w w' : World} {base : Nat} {te : TypeId} {v : Value} {x : List e.D} (h : DRow e w base te v x) (hd : Dr B w w') (hB : B < base) : DRow e w' base te v x := by
  obtain ⟨css, fs, h1, h2, h3, h4⟩ := h
  refine ⟨css, fs, ⟨h1.1, ?_⟩, fun i hi => ⟨(h2 i hi).1, Dr.ow hd (h2 i hi).2 (fun hm => ?_)⟩, h3.mono (Nat.le_refl _) hd.size, h4⟩
  · rcases h1.2 with hn | ⟨g, cap, cur, rfl, hbg, hgg, rest⟩
    · exact .inl hn
    · exact .inr ⟨g, cap, cur, rfl, hbg, (Dr.block hd (Blk.lt (t := te) (cs := cur) hgg) (by omega)).trans hgg, rest⟩
  · have hm2 : B ∈ (List.range x.length).flatMap fs := List.mem_flatMap.2 ⟨i, List.mem_range.2 hi, hm⟩
    have := (h3.2 B hm2).1; omega
theorem DRow.rdH {e : Ty} {B : Nat} {w : World} {base : Nat} {te : TypeId} {v : Value} {x : List e.D} (h : DRow e w base te v x) (hB : B < base) : (Ty.sl e).rd (hide B w) [v] x := by
  obtain ⟨A, c, fp, _, how, hfr⟩ := h.own
  exact Ty.ow_rd (ow_hideF how hfr hB)
theorem DRow.toFd {e : Ty} {w : World} {base : Nat} {te : TypeId} {v : Value} {x : List e.D} (h : DRow e w base te v x) : ∃ fp, DRowF e w base te v x fp ∧ FrI base w.heap.size fp := by
  obtain ⟨css, fs, h1, h2, h3, h4⟩ := h
  exact ⟨_, ⟨css, fs, h1, h2, rfl, h4⟩, h3⟩
theorem Src.toF {e : Ty} {w : World} {lo : Nat} {u : Value} {y : List e.D} (h : Src e w lo u y) : ∃ fq, SrcF e w u y fq ∧ FrI lo w.heap.size fq := by
  obtain ⟨A, c, fs, hu, hf, hc⟩ := h
  exact ⟨_, ⟨A, c, fs, hu, rfl, hc⟩, hf⟩
theorem DRow.setN {e : Ty} {w : World} {base : Nat} {te : TypeId} {v : Value} {x : List e.D} (h : DRow e w base te v x) {p : Addr} (hp : p.block < base) (u : Value) : DRow e (w.setCell p u) base te v x := by
  obtain ⟨css, fs, h1, h2, h3, h4⟩ := h
  refine ⟨css, fs, ⟨h1.1, ?_⟩, fun i hi => ⟨(h2 i hi).1, Ty.ow_keep (fun b hb => Below.heap_setCell _ _ _ _ ?_) (h2 i hi).2⟩, by rw [World.size_setCell]; exact h3, h4⟩
  · rcases h1.2 with hn | ⟨g, cap, cur, rfl, hbg, hgg, rest⟩
    · exact .inl hn
    · exact .inr ⟨g, cap, cur, rfl, hbg, (Below.heap_setCell _ _ _ _ (by omega)).trans hgg, rest⟩
  · have hm : b ∈ (List.range x.length).flatMap fs := List.mem_flatMap.2 ⟨i, List.mem_range.2 hi, hb⟩
    have := (h3.2 b hm).1; omega
/-- 'append' to a row that was stated ahead of some draws: what is taken in lies behind it. -/
theorem wpList_append_drowD {P : Program} {w : World} {ops : Array Oper} {rest : List Oper} {o : Oper} {a : Act} {Q : Exit → Act → World → Prop} (hgd : o.guard = none) (s xo : Operand) (t : TypeId)
    (ho : o.op = .call { callee := .builtin .append, args := #[s, xo], argTypes := #[t, t] }) {e : Ty} (w0 : World) (base : Nat) (te : TypeId) {z : Value} {by_ : Nat}
    (hinfo : (P.info? te).map (fun i => (i.zero, i.size, i.bytes)) = some (some z, e.sz, by_)) (hz1 : z.cells.size = e.sz) (ht : P.underlying t = some (.slice te))
    (v u : Value) (x y : List e.D) (hs : a.eval s = v) (hx : a.eval xo = u) (hown : DRow e w0 base te v x) (hsz : w0.heap.size ≤ w.heap.size) (hk : ∀ b, base ≤ b → b < w0.heap.size → w.heap[b]? = w0.heap[b]?) (hy : Src e w w0.heap.size u y) (hbytes : (x.length + y.length) * by_ ≤ 140737488355328) (hlen : x.length + y.length ≤ maxLen) (hbase : base ≤ w0.heap.size)
    (h : ∀ v' w', DRow e w' base te v' (x ++ y) → w.grownBy w' v.ownBlock → wpList P ops Q rest (a.put o.dst v') w') : wpList P ops Q (o :: rest) a w := by
  obtain ⟨fp, hF, hfp⟩ := hown.toFd
  obtain ⟨fq, hS, hfq⟩ := hy.toF
  have hF' : DRowF e w base te v x fp := hF.keep hsz (fun b hb => hk b (hfp.2 b hb).1 (hfp.2 b hb).2) (fun g hg => hk g (hown.block g hg).1 (hown.block g hg).2)
  refine wpList_append_drowF hgd s xo t ho base te hinfo hz1 ht v u x y fp fq hs hx hF' hS (fun g hg hm => ?_) hbytes hlen (Nat.le_trans hbase hsz) (fun v' w' hr hg _ => h v' w' (hr.drow ?_) hg)
  · have := (hown.block g hg).2; have := (hfq.2 g hm).1; omega
  · exact FrI.app hfp (hfq.mono (Nat.le_refl _) hg.size) (Nat.le_refl _) hbase (Nat.le_trans hsz hg.size)
theorem Cur.neq {tc : TypeId} {w : World} {B g : Nat} {t : TypeId} {cs : Array Value} (h : Cur tc w B) (hb : Blk w g t cs) (hs : cs.size ≠ 3) : g ≠ B := by
  intro e
  subst e
  obtain ⟨_, _, _, _, _, _, _, _, _, hk, _⟩ := h
  unfold Blk at hk hb
  rw [hk] at hb
  injection hb with hb
  injection hb with h1
  rw [← h1] at hs
  exact hs rfl
theorem owGrown {t : Ty} {w w' : World} {cs : List Value} {x : t.D} {fp : List Nat} {lo hi : Nat} {row : Option Nat} (h : t.ow w cs x fp) (hf : FrI lo hi fp) (hg : w.grownBy w' row) (hr : ∀ g, row = some g → hi ≤ g) : t.ow w' cs x fp :=
  Ty.ow_keep (fun b hb => hg.block b (Ty.ow_lt h b hb) (fun e => by have := hr b e.symm; have := (hf.2 b hb).2; omega)) h
end Go.Proofs.Ytldgbnlcnlfmeaa

/- Copies of data. Printed by gen22.py. -/
namespace Go.Proofs.Ytldgbnlcnlfmeaa
open Go.RowKit
set_option linter.unusedVariables false
set_option linter.unusedSimpArgs false

theorem data_parts {x : tData.D} {B : Nat} (s : Ty.bulk tData x ≤ B) : x.1.length ≤ B ∧ x.2.1.length ≤ B ∧ x.2.2.1.length ≤ B := by
  have h1 : Ty.bulk (.sl .str) x.1 + (Ty.bulk (.sl .byte) x.2.1 + (Ty.bulk (.sl .str) x.2.2.1 + (0 + 0))) ≤ B := s
  exact ⟨Ty.bulk_len (e := .str) (x := x.1) (n := B) (by omega), Ty.bulk_len (e := .byte) (x := x.2.1) (n := B) (by omega), Ty.bulk_len (e := .str) (x := x.2.2.1) (n := B) (by omega)⟩
/-- A datum's cells, owned part by part. -/
theorem ow_Data_mk {w : World} {x : tData.D} {A0 A1 A2 : Option Addr} {c0 c1 c2 : Nat} {f0 f1 f2 : List Nat} (h0 : (Ty.sl .str).ow w [.slice A0 (List.length x.1) c0] x.1 f0) (h1 : (Ty.sl .byte).ow w [.slice A1 (List.length x.2.1) c1] x.2.1 f1) (h2 : (Ty.sl .str).ow w [.slice A2 (List.length x.2.2.1) c2] x.2.2.1 f2)
    (b3 : -9223372036854775808 ≤ x.2.2.2.1 ∧ x.2.2.2.1 ≤ 9223372036854775807) (b4 : -9223372036854775808 ≤ x.2.2.2.2 ∧ x.2.2.2.2 ≤ 9223372036854775807) :
    tData.ow w [.slice A0 (List.length x.1) c0, .slice A1 (List.length x.2.1) c1, .slice A2 (List.length x.2.2.1) c2, .int .i64 x.2.2.2.1, .int .i64 x.2.2.2.2] x (f0 ++ (f1 ++ (f2 ++ ([] ++ [])))) :=
  ⟨[_], [_, _, _, _], f0, (f1 ++ (f2 ++ ([] ++ []))), rfl, rfl, h0, ⟨[_], [_, _, _], f1, (f2 ++ ([] ++ [])), rfl, rfl, h1, ⟨[_], [_, _], f2, ([] ++ []), rfl, rfl, h2, ⟨[_], [_], [], [], rfl, rfl, ⟨⟨rfl, b3⟩, rfl⟩, ⟨⟨rfl, b4⟩, rfl⟩⟩⟩⟩⟩
theorem fr3 {lo m1 m2 hi : Nat} {f0 f1 f2 : List Nat} (h0 : FrI lo m1 f0) (h1 : FrI m1 m2 f1) (h2 : FrI m2 hi f2) (l1 : lo ≤ m1) (l2 : m1 ≤ m2) (l3 : m2 ≤ hi) : FrI lo hi (f0 ++ (f1 ++ (f2 ++ ([] ++ [])))) :=
  FrI.app h0 (FrI.app h1 (FrI.app h2 (FrI.nil hi hi) (Nat.le_refl _) l3 (Nat.le_refl _)) (Nat.le_refl _) l2 (by omega)) (Nat.le_refl _) l1 (by omega)
set_option maxRecDepth 100000 in
set_option maxHeartbeats 2000000 in
theorem C_impl_copyData (w : World) (cs : List Value) (x : tData.D) (h : tData.rd w cs x) (s0 : Ty.bulk tData x ≤ 1000000000) :
    Calls Try.prog 97 #[.agg cs.toArray] w (RetAgg w tData x) := by
  obtain ⟨As0, cs0, As1, cs1, As2, cs2, rfl, sg0, sg1, sg2, sg3, sg4⟩ := rd_Data h
  obtain ⟨l0, l1, l2⟩ := data_parts s0
  go_enter Try.func97, Try.ntmps97
  go_wp2_with fail
  refine (C_impl_copyName _ _ x.1 (Ty.rd_below (by repeat' (first | (with_reducible exact Below.refl _ _) | (with_reducible assumption) | (with_reducible refine bel_set ?_ (by (try dsimp only); omega) _) | (with_reducible refine bel_alloc ?_ _) | (with_reducible refine bel_drewN ?_ _) | (with_reducible refine bel_drew ?_))) sg0) (by omega)).mono ?_
  rintro e w0 ⟨cs0, fp0, rfl, how0, hfr0, hb0⟩
  obtain ⟨A0, c0, rfl⟩ := Ty.ow_slv how0
  have hz0 := hb0.size
  simp only [World.size_alloc, World.size_setCell] at hz0
  have hw0 : Below w.heap.size w w0 := bel_trans (by repeat' (first | (with_reducible exact Below.refl _ _) | (with_reducible assumption) | (with_reducible refine bel_set ?_ (by (try dsimp only); omega) _) | (with_reducible refine bel_alloc ?_ _) | (with_reducible refine bel_drewN ?_ _) | (with_reducible refine bel_drew ?_))) hb0
  have hB0 : Blk w0 (w.heap.size) 46 #[.slice As0 (List.length x.1) cs0, .slice As1 (List.length x.2.1) cs1, .slice As2 (List.length x.2.2.1) cs2, .int .i64 x.2.2.2.1, .int .i64 x.2.2.2.2] := ((Blk.new w 46 #[.slice As0 (List.length x.1) cs0, .slice As1 (List.length x.2.1) cs1, .slice As2 (List.length x.2.2.1) cs2, .int .i64 x.2.2.2.1, .int .i64 x.2.2.2.2]).alloc _).below hb0 (by simp only [World.size_alloc]; omega)
  have hR0 : Blk w0 (w.heap.size + 1) 46 #[.slice none 0 0, .slice none 0 0, .slice none 0 0, .int .i64 0, .int .i64 0] := (show Blk ((w.alloc (.cells #[.slice As0 (List.length x.1) cs0, .slice As1 (List.length x.2.1) cs1, .slice As2 (List.length x.2.2.1) cs2, .int .i64 x.2.2.2.1, .int .i64 x.2.2.2.2] 46)).alloc (.cells #[.slice none 0 0, .slice none 0 0, .slice none 0 0, .int .i64 0, .int .i64 0] 46)) (w.heap.size + 1) 46 #[.slice none 0 0, .slice none 0 0, .slice none 0 0, .int .i64 0, .int .i64 0] from by have := Blk.new (w.alloc (.cells #[.slice As0 (List.length x.1) cs0, .slice As1 (List.length x.2.1) cs1, .slice As2 (List.length x.2.2.1) cs2, .int .i64 x.2.2.2.1, .int .i64 x.2.2.2.2] 46)) 46 #[.slice none 0 0, .slice none 0 0, .slice none 0 0, .int .i64 0, .int .i64 0]; rwa [World.size_alloc] at this).below hb0 (by simp only [World.size_alloc]; omega)
  have kB_0_0 : w0.cell? ⟨w.heap.size, 0, none⟩ = some (.slice As0 (List.length x.1) cs0) := hB0.cell 0
  have fB_0_0 : w0.frozen? ⟨w.heap.size, 0, none⟩ = false := hB0.frozen 0
  have kB_0_1 : w0.cell? ⟨w.heap.size, 1, none⟩ = some (.slice As1 (List.length x.2.1) cs1) := hB0.cell 1
  have fB_0_1 : w0.frozen? ⟨w.heap.size, 1, none⟩ = false := hB0.frozen 1
  have kB_0_2 : w0.cell? ⟨w.heap.size, 2, none⟩ = some (.slice As2 (List.length x.2.2.1) cs2) := hB0.cell 2
  have fB_0_2 : w0.frozen? ⟨w.heap.size, 2, none⟩ = false := hB0.frozen 2
  have kB_0_3 : w0.cell? ⟨w.heap.size, 3, none⟩ = some (.int .i64 x.2.2.2.1) := hB0.cell 3
  have fB_0_3 : w0.frozen? ⟨w.heap.size, 3, none⟩ = false := hB0.frozen 3
  have kB_0_4 : w0.cell? ⟨w.heap.size, 4, none⟩ = some (.int .i64 x.2.2.2.2) := hB0.cell 4
  have fB_0_4 : w0.frozen? ⟨w.heap.size, 4, none⟩ = false := hB0.frozen 4
  have zB_0 : w.heap.size < w0.heap.size := hB0.lt
  have kR_0_0 : w0.cell? ⟨w.heap.size + 1, 0, none⟩ = some (.slice none 0 0) := hR0.cell 0
  have fR_0_0 : w0.frozen? ⟨w.heap.size + 1, 0, none⟩ = false := hR0.frozen 0
  have kR_0_1 : w0.cell? ⟨w.heap.size + 1, 1, none⟩ = some (.slice none 0 0) := hR0.cell 1
  have fR_0_1 : w0.frozen? ⟨w.heap.size + 1, 1, none⟩ = false := hR0.frozen 1
  have kR_0_2 : w0.cell? ⟨w.heap.size + 1, 2, none⟩ = some (.slice none 0 0) := hR0.cell 2
  have fR_0_2 : w0.frozen? ⟨w.heap.size + 1, 2, none⟩ = false := hR0.frozen 2
  have kR_0_3 : w0.cell? ⟨w.heap.size + 1, 3, none⟩ = some (.int .i64 0) := hR0.cell 3
  have fR_0_3 : w0.frozen? ⟨w.heap.size + 1, 3, none⟩ = false := hR0.frozen 3
  have kR_0_4 : w0.cell? ⟨w.heap.size + 1, 4, none⟩ = some (.int .i64 0) := hR0.cell 4
  have fR_0_4 : w0.frozen? ⟨w.heap.size + 1, 4, none⟩ = false := hR0.frozen 4
  have zR_0 : w.heap.size + 1 < w0.heap.size := hR0.lt
  go_wp2_with fail
  refine (C_slices_Clone_byte _ _ x.2.1 (Ty.rd_below (bel_set hw0 (Nat.le_refl _) _) sg1) (by omega)).mono ?_
  rintro e w1 ⟨v1, rfl, hr1, hb1⟩
  obtain ⟨A1, c1, fp1, rfl, how1, hfr1⟩ := hr1.own hb1.size
  clear hr1
  have hz1 := hb1.size
  simp only [World.size_alloc, World.size_setCell] at hz1
  have hw1 : Below w.heap.size w w1 := bel_trans (by repeat' (first | (with_reducible exact Below.refl _ _) | (with_reducible assumption) | (with_reducible refine bel_set ?_ (by (try dsimp only); omega) _) | (with_reducible refine bel_alloc ?_ _) | (with_reducible refine bel_drewN ?_ _) | (with_reducible refine bel_drew ?_))) hb1
  clear kB_0_0 fB_0_0 kB_0_1 fB_0_1 kB_0_2 fB_0_2 kB_0_3 fB_0_3 kB_0_4 fB_0_4 kR_0_0 fR_0_0 kR_0_1 fR_0_1 kR_0_2 fR_0_2 kR_0_3 fR_0_3 kR_0_4 fR_0_4
  have hB1 : Blk w1 (w.heap.size) 46 #[.slice A0 (List.length x.1) c0, .slice As1 (List.length x.2.1) cs1, .slice As2 (List.length x.2.2.1) cs2, .int .i64 x.2.2.2.1, .int .i64 x.2.2.2.2] := (hB0.set_ 0 (.slice A0 (List.length x.1) c0)).below hb1 (by simp only [World.size_setCell]; omega)
  have hR1 : Blk w1 (w.heap.size + 1) 46 #[.slice none 0 0, .slice none 0 0, .slice none 0 0, .int .i64 0, .int .i64 0] := (hR0.far (by dsimp only; omega) (.slice A0 (List.length x.1) c0)).below hb1 (by simp only [World.size_setCell]; omega)
  have kB_1_0 : w1.cell? ⟨w.heap.size, 0, none⟩ = some (.slice A0 (List.length x.1) c0) := hB1.cell 0
  have fB_1_0 : w1.frozen? ⟨w.heap.size, 0, none⟩ = false := hB1.frozen 0
  have kB_1_1 : w1.cell? ⟨w.heap.size, 1, none⟩ = some (.slice As1 (List.length x.2.1) cs1) := hB1.cell 1
  have fB_1_1 : w1.frozen? ⟨w.heap.size, 1, none⟩ = false := hB1.frozen 1
  have kB_1_2 : w1.cell? ⟨w.heap.size, 2, none⟩ = some (.slice As2 (List.length x.2.2.1) cs2) := hB1.cell 2
  have fB_1_2 : w1.frozen? ⟨w.heap.size, 2, none⟩ = false := hB1.frozen 2
  have kB_1_3 : w1.cell? ⟨w.heap.size, 3, none⟩ = some (.int .i64 x.2.2.2.1) := hB1.cell 3
  have fB_1_3 : w1.frozen? ⟨w.heap.size, 3, none⟩ = false := hB1.frozen 3
  have kB_1_4 : w1.cell? ⟨w.heap.size, 4, none⟩ = some (.int .i64 x.2.2.2.2) := hB1.cell 4
  have fB_1_4 : w1.frozen? ⟨w.heap.size, 4, none⟩ = false := hB1.frozen 4
  have zB_1 : w.heap.size < w1.heap.size := hB1.lt
  have kR_1_0 : w1.cell? ⟨w.heap.size + 1, 0, none⟩ = some (.slice none 0 0) := hR1.cell 0
  have fR_1_0 : w1.frozen? ⟨w.heap.size + 1, 0, none⟩ = false := hR1.frozen 0
  have kR_1_1 : w1.cell? ⟨w.heap.size + 1, 1, none⟩ = some (.slice none 0 0) := hR1.cell 1
  have fR_1_1 : w1.frozen? ⟨w.heap.size + 1, 1, none⟩ = false := hR1.frozen 1
  have kR_1_2 : w1.cell? ⟨w.heap.size + 1, 2, none⟩ = some (.slice none 0 0) := hR1.cell 2
  have fR_1_2 : w1.frozen? ⟨w.heap.size + 1, 2, none⟩ = false := hR1.frozen 2
  have kR_1_3 : w1.cell? ⟨w.heap.size + 1, 3, none⟩ = some (.int .i64 0) := hR1.cell 3
  have fR_1_3 : w1.frozen? ⟨w.heap.size + 1, 3, none⟩ = false := hR1.frozen 3
  have kR_1_4 : w1.cell? ⟨w.heap.size + 1, 4, none⟩ = some (.int .i64 0) := hR1.cell 4
  have fR_1_4 : w1.frozen? ⟨w.heap.size + 1, 4, none⟩ = false := hR1.frozen 4
  have zR_1 : w.heap.size + 1 < w1.heap.size := hR1.lt
  go_wp2_with fail
  refine (C_impl_copyName _ _ x.2.2.1 (Ty.rd_below (bel_set hw1 (Nat.le_refl _) _) sg2) (by omega)).mono ?_
  rintro e w2 ⟨cs2, fp2, rfl, how2, hfr2, hb2⟩
  obtain ⟨A2, c2, rfl⟩ := Ty.ow_slv how2
  have hz2 := hb2.size
  simp only [World.size_alloc, World.size_setCell] at hz2
  have hw2 : Below w.heap.size w w2 := bel_trans (by repeat' (first | (with_reducible exact Below.refl _ _) | (with_reducible assumption) | (with_reducible refine bel_set ?_ (by (try dsimp only); omega) _) | (with_reducible refine bel_alloc ?_ _) | (with_reducible refine bel_drewN ?_ _) | (with_reducible refine bel_drew ?_))) hb2
  clear kB_1_0 fB_1_0 kB_1_1 fB_1_1 kB_1_2 fB_1_2 kB_1_3 fB_1_3 kB_1_4 fB_1_4 kR_1_0 fR_1_0 kR_1_1 fR_1_1 kR_1_2 fR_1_2 kR_1_3 fR_1_3 kR_1_4 fR_1_4
  have hB2 : Blk w2 (w.heap.size) 46 #[.slice A0 (List.length x.1) c0, .slice A1 (List.length x.2.1) c1, .slice As2 (List.length x.2.2.1) cs2, .int .i64 x.2.2.2.1, .int .i64 x.2.2.2.2] := (hB1.set_ 1 (.slice A1 (List.length x.2.1) c1)).below hb2 (by simp only [World.size_setCell]; omega)
  have hR2 : Blk w2 (w.heap.size + 1) 46 #[.slice none 0 0, .slice none 0 0, .slice none 0 0, .int .i64 0, .int .i64 0] := (hR1.far (by dsimp only; omega) (.slice A1 (List.length x.2.1) c1)).below hb2 (by simp only [World.size_setCell]; omega)
  have kB_2_0 : w2.cell? ⟨w.heap.size, 0, none⟩ = some (.slice A0 (List.length x.1) c0) := hB2.cell 0
  have fB_2_0 : w2.frozen? ⟨w.heap.size, 0, none⟩ = false := hB2.frozen 0
  have kB_2_1 : w2.cell? ⟨w.heap.size, 1, none⟩ = some (.slice A1 (List.length x.2.1) c1) := hB2.cell 1
  have fB_2_1 : w2.frozen? ⟨w.heap.size, 1, none⟩ = false := hB2.frozen 1
  have kB_2_2 : w2.cell? ⟨w.heap.size, 2, none⟩ = some (.slice As2 (List.length x.2.2.1) cs2) := hB2.cell 2
  have fB_2_2 : w2.frozen? ⟨w.heap.size, 2, none⟩ = false := hB2.frozen 2
  have kB_2_3 : w2.cell? ⟨w.heap.size, 3, none⟩ = some (.int .i64 x.2.2.2.1) := hB2.cell 3
  have fB_2_3 : w2.frozen? ⟨w.heap.size, 3, none⟩ = false := hB2.frozen 3
  have kB_2_4 : w2.cell? ⟨w.heap.size, 4, none⟩ = some (.int .i64 x.2.2.2.2) := hB2.cell 4
  have fB_2_4 : w2.frozen? ⟨w.heap.size, 4, none⟩ = false := hB2.frozen 4
  have zB_2 : w.heap.size < w2.heap.size := hB2.lt
  have kR_2_0 : w2.cell? ⟨w.heap.size + 1, 0, none⟩ = some (.slice none 0 0) := hR2.cell 0
  have fR_2_0 : w2.frozen? ⟨w.heap.size + 1, 0, none⟩ = false := hR2.frozen 0
  have kR_2_1 : w2.cell? ⟨w.heap.size + 1, 1, none⟩ = some (.slice none 0 0) := hR2.cell 1
  have fR_2_1 : w2.frozen? ⟨w.heap.size + 1, 1, none⟩ = false := hR2.frozen 1
  have kR_2_2 : w2.cell? ⟨w.heap.size + 1, 2, none⟩ = some (.slice none 0 0) := hR2.cell 2
  have fR_2_2 : w2.frozen? ⟨w.heap.size + 1, 2, none⟩ = false := hR2.frozen 2
  have kR_2_3 : w2.cell? ⟨w.heap.size + 1, 3, none⟩ = some (.int .i64 0) := hR2.cell 3
  have fR_2_3 : w2.frozen? ⟨w.heap.size + 1, 3, none⟩ = false := hR2.frozen 3
  have kR_2_4 : w2.cell? ⟨w.heap.size + 1, 4, none⟩ = some (.int .i64 0) := hR2.cell 4
  have fR_2_4 : w2.frozen? ⟨w.heap.size + 1, 4, none⟩ = false := hR2.frozen 4
  have zR_2 : w.heap.size + 1 < w2.heap.size := hR2.lt
  go_wp2
  refine bodyPost_ret (v := .agg #[.slice A0 (List.length x.1) c0, .slice A1 (List.length x.2.1) c1, .slice A2 (List.length x.2.2.1) c2, .int .i64 x.2.2.2.1, .int .i64 x.2.2.2.2]) (by simp [results, Try.results97, go_sem, kB_2_0, kB_2_1, kB_2_2, kB_2_3, kB_2_4, kR_2_0, kR_2_1, kR_2_2, kR_2_3, kR_2_4, fB_2_0, fB_2_1, fB_2_2, fB_2_3, fB_2_4, fR_2_0, fR_2_1, fR_2_2, fR_2_3, fR_2_4]) rfl ?_
  exact ⟨_, _, rfl, ow_Data_mk (Ty.ow_keep (by intro b hb'; have hb'' := (hfr0).2 b hb'; (try simp only [World.size_alloc, World.size_setCell, size_drewN, World.size_drew] at hb''); repeat (first | (with_reducible rfl) | (rw [Below.heap_setCell _ _ _ _ (by (try dsimp only); omega)]) | (rw [Below.heap_alloc _ _ _ (by simp only [World.size_alloc, World.size_setCell]; omega)]) | (rw [hb1.block _ (by simp only [World.size_alloc, World.size_setCell, size_drewN, World.size_drew]; omega)]) | (rw [hb2.block _ (by simp only [World.size_alloc, World.size_setCell, size_drewN, World.size_drew]; omega)]))) how0) (Ty.ow_keep (by intro b hb'; have hb'' := (hfr1).2 b hb'; (try simp only [World.size_alloc, World.size_setCell, size_drewN, World.size_drew] at hb''); repeat (first | (with_reducible rfl) | (rw [Below.heap_setCell _ _ _ _ (by (try dsimp only); omega)]) | (rw [Below.heap_alloc _ _ _ (by simp only [World.size_alloc, World.size_setCell]; omega)]) | (rw [hb2.block _ (by simp only [World.size_alloc, World.size_setCell, size_drewN, World.size_drew]; omega)]))) how1) (Ty.ow_keep (by intro b hb'; have hb'' := (hfr2).2 b hb'; (try simp only [World.size_alloc, World.size_setCell, size_drewN, World.size_drew] at hb''); repeat (first | (with_reducible rfl) | (rw [Below.heap_setCell _ _ _ _ (by (try dsimp only); omega)]) | (rw [Below.heap_alloc _ _ _ (by simp only [World.size_alloc, World.size_setCell]; omega)]))) how2) sg3 sg4, (fr3 (m1 := w0.heap.size) (m2 := w1.heap.size) (hfr0.mono (by (try simp only [World.size_alloc, World.size_setCell, size_drewN, World.size_drew]); omega) (Nat.le_refl _)) (hfr1.mono (by (try simp only [World.size_alloc, World.size_setCell]); omega) (Nat.le_refl _)) (hfr2.mono (by (try simp only [World.size_alloc, World.size_setCell]); omega) (by (try simp only [World.size_alloc, World.size_setCell, size_drewN, World.size_drew]); omega)) (by (try simp only [World.size_alloc, World.size_setCell, size_drewN, World.size_drew]); omega) (by (try simp only [World.size_alloc, World.size_setCell, size_drewN, World.size_drew]); omega) (by (try simp only [World.size_alloc, World.size_setCell, size_drewN, World.size_drew]); omega)), bel_trans (by repeat' (first | (with_reducible exact Below.refl _ _) | (with_reducible assumption) | (with_reducible refine bel_set ?_ (by (try dsimp only); omega) _) | (with_reducible refine bel_alloc ?_ _) | (with_reducible refine bel_drewN ?_ _) | (with_reducible refine bel_drew ?_))) (Below.refl _ _)⟩
set_option maxRecDepth 100000 in
set_option maxHeartbeats 2000000 in
theorem C_spec_l8Copy (w : World) (cs : List Value) (x : tData.D) (h : tData.rd w cs x) (s0 : Ty.bulk tData x ≤ 1000000000) :
    Calls Try.prog 100 #[.agg cs.toArray] w (RetAgg w tData x) := by
  obtain ⟨As0, cs0, As1, cs1, As2, cs2, rfl, sg0, sg1, sg2, sg3, sg4⟩ := rd_Data h
  obtain ⟨l0, l1, l2⟩ := data_parts s0
  go_enter Try.func100, Try.ntmps100
  go_wp2_with fail
  refine (C_spec_l4Copy _ _ x.1 (Ty.rd_below (by repeat' (first | (with_reducible exact Below.refl _ _) | (with_reducible assumption) | (with_reducible refine bel_set ?_ (by (try dsimp only); omega) _) | (with_reducible refine bel_alloc ?_ _) | (with_reducible refine bel_drewN ?_ _) | (with_reducible refine bel_drew ?_))) sg0) (by omega)).mono ?_
  rintro e w0 ⟨cs0, fp0, rfl, how0, hfr0, hb0⟩
  obtain ⟨A0, c0, rfl⟩ := Ty.ow_slv how0
  have hz0 := hb0.size
  simp only [World.size_alloc, World.size_setCell] at hz0
  have hw0 : Below w.heap.size w w0 := bel_trans (by repeat' (first | (with_reducible exact Below.refl _ _) | (with_reducible assumption) | (with_reducible refine bel_set ?_ (by (try dsimp only); omega) _) | (with_reducible refine bel_alloc ?_ _) | (with_reducible refine bel_drewN ?_ _) | (with_reducible refine bel_drew ?_))) hb0
  have hB0 : Blk w0 (w.heap.size) 46 #[.slice As0 (List.length x.1) cs0, .slice As1 (List.length x.2.1) cs1, .slice As2 (List.length x.2.2.1) cs2, .int .i64 x.2.2.2.1, .int .i64 x.2.2.2.2] := (((Blk.new w 46 #[.slice As0 (List.length x.1) cs0, .slice As1 (List.length x.2.1) cs1, .slice As2 (List.length x.2.2.1) cs2, .int .i64 x.2.2.2.1, .int .i64 x.2.2.2.2]).alloc _).alloc _).below hb0 (by simp only [World.size_alloc]; omega)
  have hR0 : Blk w0 (w.heap.size + 1) 46 #[.slice none 0 0, .slice none 0 0, .slice none 0 0, .int .i64 0, .int .i64 0] := ((show Blk ((w.alloc (.cells #[.slice As0 (List.length x.1) cs0, .slice As1 (List.length x.2.1) cs1, .slice As2 (List.length x.2.2.1) cs2, .int .i64 x.2.2.2.1, .int .i64 x.2.2.2.2] 46)).alloc (.cells #[.slice none 0 0, .slice none 0 0, .slice none 0 0, .int .i64 0, .int .i64 0] 46)) (w.heap.size + 1) 46 #[.slice none 0 0, .slice none 0 0, .slice none 0 0, .int .i64 0, .int .i64 0] from by have := Blk.new (w.alloc (.cells #[.slice As0 (List.length x.1) cs0, .slice As1 (List.length x.2.1) cs1, .slice As2 (List.length x.2.2.1) cs2, .int .i64 x.2.2.2.1, .int .i64 x.2.2.2.2] 46)) 46 #[.slice none 0 0, .slice none 0 0, .slice none 0 0, .int .i64 0, .int .i64 0]; rwa [World.size_alloc] at this).alloc _).below hb0 (by simp only [World.size_alloc]; omega)
  have hO0 : Blk w0 (w.heap.size + 1 + 1) 46 #[.slice As0 (List.length x.1) cs0, .slice As1 (List.length x.2.1) cs1, .slice As2 (List.length x.2.2.1) cs2, .int .i64 x.2.2.2.1, .int .i64 x.2.2.2.2] := (show Blk (((w.alloc (.cells #[.slice As0 (List.length x.1) cs0, .slice As1 (List.length x.2.1) cs1, .slice As2 (List.length x.2.2.1) cs2, .int .i64 x.2.2.2.1, .int .i64 x.2.2.2.2] 46)).alloc (.cells #[.slice none 0 0, .slice none 0 0, .slice none 0 0, .int .i64 0, .int .i64 0] 46)).alloc (.cells #[.slice As0 (List.length x.1) cs0, .slice As1 (List.length x.2.1) cs1, .slice As2 (List.length x.2.2.1) cs2, .int .i64 x.2.2.2.1, .int .i64 x.2.2.2.2] 46)) (w.heap.size + 1 + 1) 46 #[.slice As0 (List.length x.1) cs0, .slice As1 (List.length x.2.1) cs1, .slice As2 (List.length x.2.2.1) cs2, .int .i64 x.2.2.2.1, .int .i64 x.2.2.2.2] from by have := Blk.new ((w.alloc (.cells #[.slice As0 (List.length x.1) cs0, .slice As1 (List.length x.2.1) cs1, .slice As2 (List.length x.2.2.1) cs2, .int .i64 x.2.2.2.1, .int .i64 x.2.2.2.2] 46)).alloc (.cells #[.slice none 0 0, .slice none 0 0, .slice none 0 0, .int .i64 0, .int .i64 0] 46)) 46 #[.slice As0 (List.length x.1) cs0, .slice As1 (List.length x.2.1) cs1, .slice As2 (List.length x.2.2.1) cs2, .int .i64 x.2.2.2.1, .int .i64 x.2.2.2.2]; rwa [World.size_alloc, World.size_alloc] at this).below hb0 (by simp only [World.size_alloc]; omega)
  have kB_0_0 : w0.cell? ⟨w.heap.size, 0, none⟩ = some (.slice As0 (List.length x.1) cs0) := hB0.cell 0
  have fB_0_0 : w0.frozen? ⟨w.heap.size, 0, none⟩ = false := hB0.frozen 0
  have kB_0_1 : w0.cell? ⟨w.heap.size, 1, none⟩ = some (.slice As1 (List.length x.2.1) cs1) := hB0.cell 1
  have fB_0_1 : w0.frozen? ⟨w.heap.size, 1, none⟩ = false := hB0.frozen 1
  have kB_0_2 : w0.cell? ⟨w.heap.size, 2, none⟩ = some (.slice As2 (List.length x.2.2.1) cs2) := hB0.cell 2
  have fB_0_2 : w0.frozen? ⟨w.heap.size, 2, none⟩ = false := hB0.frozen 2
  have kB_0_3 : w0.cell? ⟨w.heap.size, 3, none⟩ = some (.int .i64 x.2.2.2.1) := hB0.cell 3
  have fB_0_3 : w0.frozen? ⟨w.heap.size, 3, none⟩ = false := hB0.frozen 3
  have kB_0_4 : w0.cell? ⟨w.heap.size, 4, none⟩ = some (.int .i64 x.2.2.2.2) := hB0.cell 4
  have fB_0_4 : w0.frozen? ⟨w.heap.size, 4, none⟩ = false := hB0.frozen 4
  have zB_0 : w.heap.size < w0.heap.size := hB0.lt
  have kR_0_0 : w0.cell? ⟨w.heap.size + 1, 0, none⟩ = some (.slice none 0 0) := hR0.cell 0
  have fR_0_0 : w0.frozen? ⟨w.heap.size + 1, 0, none⟩ = false := hR0.frozen 0
  have kR_0_1 : w0.cell? ⟨w.heap.size + 1, 1, none⟩ = some (.slice none 0 0) := hR0.cell 1
  have fR_0_1 : w0.frozen? ⟨w.heap.size + 1, 1, none⟩ = false := hR0.frozen 1
  have kR_0_2 : w0.cell? ⟨w.heap.size + 1, 2, none⟩ = some (.slice none 0 0) := hR0.cell 2
  have fR_0_2 : w0.frozen? ⟨w.heap.size + 1, 2, none⟩ = false := hR0.frozen 2
  have kR_0_3 : w0.cell? ⟨w.heap.size + 1, 3, none⟩ = some (.int .i64 0) := hR0.cell 3
  have fR_0_3 : w0.frozen? ⟨w.heap.size + 1, 3, none⟩ = false := hR0.frozen 3
  have kR_0_4 : w0.cell? ⟨w.heap.size + 1, 4, none⟩ = some (.int .i64 0) := hR0.cell 4
  have fR_0_4 : w0.frozen? ⟨w.heap.size + 1, 4, none⟩ = false := hR0.frozen 4
  have zR_0 : w.heap.size + 1 < w0.heap.size := hR0.lt
  have kO_0_0 : w0.cell? ⟨w.heap.size + 1 + 1, 0, none⟩ = some (.slice As0 (List.length x.1) cs0) := hO0.cell 0
  have fO_0_0 : w0.frozen? ⟨w.heap.size + 1 + 1, 0, none⟩ = false := hO0.frozen 0
  have kO_0_1 : w0.cell? ⟨w.heap.size + 1 + 1, 1, none⟩ = some (.slice As1 (List.length x.2.1) cs1) := hO0.cell 1
  have fO_0_1 : w0.frozen? ⟨w.heap.size + 1 + 1, 1, none⟩ = false := hO0.frozen 1
  have kO_0_2 : w0.cell? ⟨w.heap.size + 1 + 1, 2, none⟩ = some (.slice As2 (List.length x.2.2.1) cs2) := hO0.cell 2
  have fO_0_2 : w0.frozen? ⟨w.heap.size + 1 + 1, 2, none⟩ = false := hO0.frozen 2
  have kO_0_3 : w0.cell? ⟨w.heap.size + 1 + 1, 3, none⟩ = some (.int .i64 x.2.2.2.1) := hO0.cell 3
  have fO_0_3 : w0.frozen? ⟨w.heap.size + 1 + 1, 3, none⟩ = false := hO0.frozen 3
  have kO_0_4 : w0.cell? ⟨w.heap.size + 1 + 1, 4, none⟩ = some (.int .i64 x.2.2.2.2) := hO0.cell 4
  have fO_0_4 : w0.frozen? ⟨w.heap.size + 1 + 1, 4, none⟩ = false := hO0.frozen 4
  have zO_0 : w.heap.size + 1 + 1 < w0.heap.size := hO0.lt
  have HL0 : Hid (Row flatB ((w0.setCell ⟨w.heap.size + 1 + 1, 0, none⟩ (.slice A0 (List.length x.1) c0)).alloc (.cells #[] 5)) w0.heap.size 5 (.slice (some ⟨w0.heap.size, 0, none⟩) 0 0) []) := by
    have := Row.lit0 flatB (w0.setCell ⟨w.heap.size + 1 + 1, 0, none⟩ (.slice A0 (List.length x.1) c0)) 5 (Nat.le_refl _)
    simp only [World.size_setCell] at this
    exact Lib.hid this
  go_wp2_with (at_builtin; go_loud (refine wpList_append_row rfl _ _ 22 rfl flatB w0.heap.size 5 infoB rfl Try.underlying22 _ _ [] x.2.1 rfl rfl HL0.out (Ty.rd_below (bel_alloc (bel_set hw0 (by dsimp only; omega) _) _) sg1) ?_ ?_ ?_ ?_))
  case refine_1 => simp only [List.length_nil]; omega
  case refine_2 => simp only [List.length_nil]; unfold maxLen; omega
  case refine_3 => simp only [World.size_alloc, World.size_setCell]; omega
  intro v1 w1 hr1 hg1
  have hr1' : Row flatB w1 w0.heap.size 5 v1 x.2.1 := hr1
  have hb1 : Below (w0.setCell ⟨w.heap.size + 1 + 1, 0, none⟩ (.slice A0 (List.length x.1) c0)).heap.size (w0.setCell ⟨w.heap.size + 1 + 1, 0, none⟩ (.slice A0 (List.length x.1) c0)) w1 := bel_grown (bel_alloc (Below.refl _ _) _) (by simp only [World.size_alloc, World.size_setCell]; omega) hg1 (fun g hg => by simp [Value.ownBlock] at hg; simp only [World.size_setCell]; omega)
  obtain ⟨A1, c1, fp1, rfl, how1, hfr1⟩ := hr1'.own (by have := hb1.size; simp only [World.size_setCell] at this; exact this)
  clear hr1 hr1' hg1 HL0
  have hz1 := hb1.size
  simp only [World.size_alloc, World.size_setCell] at hz1
  have hw1 : Below w.heap.size w w1 := bel_trans (by repeat' (first | (with_reducible exact Below.refl _ _) | (with_reducible assumption) | (with_reducible refine bel_set ?_ (by (try dsimp only); omega) _) | (with_reducible refine bel_alloc ?_ _) | (with_reducible refine bel_drewN ?_ _) | (with_reducible refine bel_drew ?_))) hb1
  clear kB_0_0 fB_0_0 kB_0_1 fB_0_1 kB_0_2 fB_0_2 kB_0_3 fB_0_3 kB_0_4 fB_0_4 kR_0_0 fR_0_0 kR_0_1 fR_0_1 kR_0_2 fR_0_2 kR_0_3 fR_0_3 kR_0_4 fR_0_4 kO_0_0 fO_0_0 kO_0_1 fO_0_1 kO_0_2 fO_0_2 kO_0_3 fO_0_3 kO_0_4 fO_0_4
  have hB1 : Blk w1 (w.heap.size) 46 #[.slice As0 (List.length x.1) cs0, .slice As1 (List.length x.2.1) cs1, .slice As2 (List.length x.2.2.1) cs2, .int .i64 x.2.2.2.1, .int .i64 x.2.2.2.2] := (hB0.far (by dsimp only; omega) (.slice A0 (List.length x.1) c0)).below hb1 (by simp only [World.size_setCell]; omega)
  have hR1 : Blk w1 (w.heap.size + 1) 46 #[.slice none 0 0, .slice none 0 0, .slice none 0 0, .int .i64 0, .int .i64 0] := (hR0.far (by dsimp only; omega) (.slice A0 (List.length x.1) c0)).below hb1 (by simp only [World.size_setCell]; omega)
  have hO1 : Blk w1 (w.heap.size + 1 + 1) 46 #[.slice A0 (List.length x.1) c0, .slice As1 (List.length x.2.1) cs1, .slice As2 (List.length x.2.2.1) cs2, .int .i64 x.2.2.2.1, .int .i64 x.2.2.2.2] := (hO0.set_ 0 (.slice A0 (List.length x.1) c0)).below hb1 (by simp only [World.size_setCell]; omega)
  have kB_1_0 : w1.cell? ⟨w.heap.size, 0, none⟩ = some (.slice As0 (List.length x.1) cs0) := hB1.cell 0
  have fB_1_0 : w1.frozen? ⟨w.heap.size, 0, none⟩ = false := hB1.frozen 0
  have kB_1_1 : w1.cell? ⟨w.heap.size, 1, none⟩ = some (.slice As1 (List.length x.2.1) cs1) := hB1.cell 1
  have fB_1_1 : w1.frozen? ⟨w.heap.size, 1, none⟩ = false := hB1.frozen 1
  have kB_1_2 : w1.cell? ⟨w.heap.size, 2, none⟩ = some (.slice As2 (List.length x.2.2.1) cs2) := hB1.cell 2
  have fB_1_2 : w1.frozen? ⟨w.heap.size, 2, none⟩ = false := hB1.frozen 2
  have kB_1_3 : w1.cell? ⟨w.heap.size, 3, none⟩ = some (.int .i64 x.2.2.2.1) := hB1.cell 3
  have fB_1_3 : w1.frozen? ⟨w.heap.size, 3, none⟩ = false := hB1.frozen 3
  have kB_1_4 : w1.cell? ⟨w.heap.size, 4, none⟩ = some (.int .i64 x.2.2.2.2) := hB1.cell 4
  have fB_1_4 : w1.frozen? ⟨w.heap.size, 4, none⟩ = false := hB1.frozen 4
  have zB_1 : w.heap.size < w1.heap.size := hB1.lt
  have kR_1_0 : w1.cell? ⟨w.heap.size + 1, 0, none⟩ = some (.slice none 0 0) := hR1.cell 0
  have fR_1_0 : w1.frozen? ⟨w.heap.size + 1, 0, none⟩ = false := hR1.frozen 0
  have kR_1_1 : w1.cell? ⟨w.heap.size + 1, 1, none⟩ = some (.slice none 0 0) := hR1.cell 1
  have fR_1_1 : w1.frozen? ⟨w.heap.size + 1, 1, none⟩ = false := hR1.frozen 1
  have kR_1_2 : w1.cell? ⟨w.heap.size + 1, 2, none⟩ = some (.slice none 0 0) := hR1.cell 2
  have fR_1_2 : w1.frozen? ⟨w.heap.size + 1, 2, none⟩ = false := hR1.frozen 2
  have kR_1_3 : w1.cell? ⟨w.heap.size + 1, 3, none⟩ = some (.int .i64 0) := hR1.cell 3
  have fR_1_3 : w1.frozen? ⟨w.heap.size + 1, 3, none⟩ = false := hR1.frozen 3
  have kR_1_4 : w1.cell? ⟨w.heap.size + 1, 4, none⟩ = some (.int .i64 0) := hR1.cell 4
  have fR_1_4 : w1.frozen? ⟨w.heap.size + 1, 4, none⟩ = false := hR1.frozen 4
  have zR_1 : w.heap.size + 1 < w1.heap.size := hR1.lt
  have kO_1_0 : w1.cell? ⟨w.heap.size + 1 + 1, 0, none⟩ = some (.slice A0 (List.length x.1) c0) := hO1.cell 0
  have fO_1_0 : w1.frozen? ⟨w.heap.size + 1 + 1, 0, none⟩ = false := hO1.frozen 0
  have kO_1_1 : w1.cell? ⟨w.heap.size + 1 + 1, 1, none⟩ = some (.slice As1 (List.length x.2.1) cs1) := hO1.cell 1
  have fO_1_1 : w1.frozen? ⟨w.heap.size + 1 + 1, 1, none⟩ = false := hO1.frozen 1
  have kO_1_2 : w1.cell? ⟨w.heap.size + 1 + 1, 2, none⟩ = some (.slice As2 (List.length x.2.2.1) cs2) := hO1.cell 2
  have fO_1_2 : w1.frozen? ⟨w.heap.size + 1 + 1, 2, none⟩ = false := hO1.frozen 2
  have kO_1_3 : w1.cell? ⟨w.heap.size + 1 + 1, 3, none⟩ = some (.int .i64 x.2.2.2.1) := hO1.cell 3
  have fO_1_3 : w1.frozen? ⟨w.heap.size + 1 + 1, 3, none⟩ = false := hO1.frozen 3
  have kO_1_4 : w1.cell? ⟨w.heap.size + 1 + 1, 4, none⟩ = some (.int .i64 x.2.2.2.2) := hO1.cell 4
  have fO_1_4 : w1.frozen? ⟨w.heap.size + 1 + 1, 4, none⟩ = false := hO1.frozen 4
  have zO_1 : w.heap.size + 1 + 1 < w1.heap.size := hO1.lt
  go_wp2_with fail
  refine (C_spec_l4Copy _ _ x.2.2.1 (Ty.rd_below (bel_set hw1 (by dsimp only; omega) _) sg2) (by omega)).mono ?_
  rintro e w2 ⟨cs2, fp2, rfl, how2, hfr2, hb2⟩
  obtain ⟨A2, c2, rfl⟩ := Ty.ow_slv how2
  have hz2 := hb2.size
  simp only [World.size_alloc, World.size_setCell] at hz2
  have hw2 : Below w.heap.size w w2 := bel_trans (by repeat' (first | (with_reducible exact Below.refl _ _) | (with_reducible assumption) | (with_reducible refine bel_set ?_ (by (try dsimp only); omega) _) | (with_reducible refine bel_alloc ?_ _) | (with_reducible refine bel_drewN ?_ _) | (with_reducible refine bel_drew ?_))) hb2
  clear kB_1_0 fB_1_0 kB_1_1 fB_1_1 kB_1_2 fB_1_2 kB_1_3 fB_1_3 kB_1_4 fB_1_4 kR_1_0 fR_1_0 kR_1_1 fR_1_1 kR_1_2 fR_1_2 kR_1_3 fR_1_3 kR_1_4 fR_1_4 kO_1_0 fO_1_0 kO_1_1 fO_1_1 kO_1_2 fO_1_2 kO_1_3 fO_1_3 kO_1_4 fO_1_4
  have hB2 : Blk w2 (w.heap.size) 46 #[.slice As0 (List.length x.1) cs0, .slice As1 (List.length x.2.1) cs1, .slice As2 (List.length x.2.2.1) cs2, .int .i64 x.2.2.2.1, .int .i64 x.2.2.2.2] := (hB1.far (by dsimp only; omega) (.slice A1 (List.length x.2.1) c1)).below hb2 (by simp only [World.size_setCell]; omega)
  have hR2 : Blk w2 (w.heap.size + 1) 46 #[.slice none 0 0, .slice none 0 0, .slice none 0 0, .int .i64 0, .int .i64 0] := (hR1.far (by dsimp only; omega) (.slice A1 (List.length x.2.1) c1)).below hb2 (by simp only [World.size_setCell]; omega)
  have hO2 : Blk w2 (w.heap.size + 1 + 1) 46 #[.slice A0 (List.length x.1) c0, .slice A1 (List.length x.2.1) c1, .slice As2 (List.length x.2.2.1) cs2, .int .i64 x.2.2.2.1, .int .i64 x.2.2.2.2] := (hO1.set_ 1 (.slice A1 (List.length x.2.1) c1)).below hb2 (by simp only [World.size_setCell]; omega)
  have kB_2_0 : w2.cell? ⟨w.heap.size, 0, none⟩ = some (.slice As0 (List.length x.1) cs0) := hB2.cell 0
  have fB_2_0 : w2.frozen? ⟨w.heap.size, 0, none⟩ = false := hB2.frozen 0
  have kB_2_1 : w2.cell? ⟨w.heap.size, 1, none⟩ = some (.slice As1 (List.length x.2.1) cs1) := hB2.cell 1
  have fB_2_1 : w2.frozen? ⟨w.heap.size, 1, none⟩ = false := hB2.frozen 1
  have kB_2_2 : w2.cell? ⟨w.heap.size, 2, none⟩ = some (.slice As2 (List.length x.2.2.1) cs2) := hB2.cell 2
  have fB_2_2 : w2.frozen? ⟨w.heap.size, 2, none⟩ = false := hB2.frozen 2
  have kB_2_3 : w2.cell? ⟨w.heap.size, 3, none⟩ = some (.int .i64 x.2.2.2.1) := hB2.cell 3
  have fB_2_3 : w2.frozen? ⟨w.heap.size, 3, none⟩ = false := hB2.frozen 3
  have kB_2_4 : w2.cell? ⟨w.heap.size, 4, none⟩ = some (.int .i64 x.2.2.2.2) := hB2.cell 4
  have fB_2_4 : w2.frozen? ⟨w.heap.size, 4, none⟩ = false := hB2.frozen 4
  have zB_2 : w.heap.size < w2.heap.size := hB2.lt
  have kR_2_0 : w2.cell? ⟨w.heap.size + 1, 0, none⟩ = some (.slice none 0 0) := hR2.cell 0
  have fR_2_0 : w2.frozen? ⟨w.heap.size + 1, 0, none⟩ = false := hR2.frozen 0
  have kR_2_1 : w2.cell? ⟨w.heap.size + 1, 1, none⟩ = some (.slice none 0 0) := hR2.cell 1
  have fR_2_1 : w2.frozen? ⟨w.heap.size + 1, 1, none⟩ = false := hR2.frozen 1
  have kR_2_2 : w2.cell? ⟨w.heap.size + 1, 2, none⟩ = some (.slice none 0 0) := hR2.cell 2
  have fR_2_2 : w2.frozen? ⟨w.heap.size + 1, 2, none⟩ = false := hR2.frozen 2
  have kR_2_3 : w2.cell? ⟨w.heap.size + 1, 3, none⟩ = some (.int .i64 0) := hR2.cell 3
  have fR_2_3 : w2.frozen? ⟨w.heap.size + 1, 3, none⟩ = false := hR2.frozen 3
  have kR_2_4 : w2.cell? ⟨w.heap.size + 1, 4, none⟩ = some (.int .i64 0) := hR2.cell 4
  have fR_2_4 : w2.frozen? ⟨w.heap.size + 1, 4, none⟩ = false := hR2.frozen 4
  have zR_2 : w.heap.size + 1 < w2.heap.size := hR2.lt
  have kO_2_0 : w2.cell? ⟨w.heap.size + 1 + 1, 0, none⟩ = some (.slice A0 (List.length x.1) c0) := hO2.cell 0
  have fO_2_0 : w2.frozen? ⟨w.heap.size + 1 + 1, 0, none⟩ = false := hO2.frozen 0
  have kO_2_1 : w2.cell? ⟨w.heap.size + 1 + 1, 1, none⟩ = some (.slice A1 (List.length x.2.1) c1) := hO2.cell 1
  have fO_2_1 : w2.frozen? ⟨w.heap.size + 1 + 1, 1, none⟩ = false := hO2.frozen 1
  have kO_2_2 : w2.cell? ⟨w.heap.size + 1 + 1, 2, none⟩ = some (.slice As2 (List.length x.2.2.1) cs2) := hO2.cell 2
  have fO_2_2 : w2.frozen? ⟨w.heap.size + 1 + 1, 2, none⟩ = false := hO2.frozen 2
  have kO_2_3 : w2.cell? ⟨w.heap.size + 1 + 1, 3, none⟩ = some (.int .i64 x.2.2.2.1) := hO2.cell 3
  have fO_2_3 : w2.frozen? ⟨w.heap.size + 1 + 1, 3, none⟩ = false := hO2.frozen 3
  have kO_2_4 : w2.cell? ⟨w.heap.size + 1 + 1, 4, none⟩ = some (.int .i64 x.2.2.2.2) := hO2.cell 4
  have fO_2_4 : w2.frozen? ⟨w.heap.size + 1 + 1, 4, none⟩ = false := hO2.frozen 4
  have zO_2 : w.heap.size + 1 + 1 < w2.heap.size := hO2.lt
  go_wp2
  refine bodyPost_ret (v := .agg #[.slice A0 (List.length x.1) c0, .slice A1 (List.length x.2.1) c1, .slice A2 (List.length x.2.2.1) c2, .int .i64 x.2.2.2.1, .int .i64 x.2.2.2.2]) (by simp [results, Try.results100, go_sem, kO_2_0, kO_2_1, kO_2_2, kO_2_3, kO_2_4, kR_2_0, kR_2_1, kR_2_2, kR_2_3, kR_2_4, fO_2_0, fO_2_1, fO_2_2, fO_2_3, fO_2_4, fR_2_0, fR_2_1, fR_2_2, fR_2_3, fR_2_4]) rfl ?_
  exact ⟨_, _, rfl, ow_Data_mk (Ty.ow_keep (by intro b hb'; have hb'' := (hfr0).2 b hb'; (try simp only [World.size_alloc, World.size_setCell, size_drewN, World.size_drew] at hb''); repeat (first | (with_reducible rfl) | (rw [Below.heap_setCell _ _ _ _ (by (try dsimp only); omega)]) | (rw [Below.heap_alloc _ _ _ (by simp only [World.size_alloc, World.size_setCell]; omega)]) | (rw [hb1.block _ (by simp only [World.size_alloc, World.size_setCell, size_drewN, World.size_drew]; omega)]) | (rw [hb2.block _ (by simp only [World.size_alloc, World.size_setCell, size_drewN, World.size_drew]; omega)]))) how0) (Ty.ow_keep (by intro b hb'; have hb'' := (hfr1).2 b hb'; (try simp only [World.size_alloc, World.size_setCell, size_drewN, World.size_drew] at hb''); repeat (first | (with_reducible rfl) | (rw [Below.heap_setCell _ _ _ _ (by (try dsimp only); omega)]) | (rw [Below.heap_alloc _ _ _ (by simp only [World.size_alloc, World.size_setCell]; omega)]) | (rw [hb2.block _ (by simp only [World.size_alloc, World.size_setCell, size_drewN, World.size_drew]; omega)]))) how1) (Ty.ow_keep (by intro b hb'; have hb'' := (hfr2).2 b hb'; (try simp only [World.size_alloc, World.size_setCell, size_drewN, World.size_drew] at hb''); repeat (first | (with_reducible rfl) | (rw [Below.heap_setCell _ _ _ _ (by (try dsimp only); omega)]) | (rw [Below.heap_alloc _ _ _ (by simp only [World.size_alloc, World.size_setCell]; omega)]))) how2) sg3 sg4, (fr3 (m1 := w0.heap.size) (m2 := w1.heap.size) (hfr0.mono (by (try simp only [World.size_alloc, World.size_setCell, size_drewN, World.size_drew]); omega) (Nat.le_refl _)) (hfr1.mono (by (try simp only [World.size_alloc, World.size_setCell]); omega) (Nat.le_refl _)) (hfr2.mono (by (try simp only [World.size_alloc, World.size_setCell]); omega) (by (try simp only [World.size_alloc, World.size_setCell, size_drewN, World.size_drew]); omega)) (by (try simp only [World.size_alloc, World.size_setCell, size_drewN, World.size_drew]); omega) (by (try simp only [World.size_alloc, World.size_setCell, size_drewN, World.size_drew]); omega) (by (try simp only [World.size_alloc, World.size_setCell, size_drewN, World.size_drew]); omega)), bel_trans (by repeat' (first | (with_reducible exact Below.refl _ _) | (with_reducible assumption) | (with_reducible refine bel_set ?_ (by (try dsimp only); omega) _) | (with_reducible refine bel_alloc ?_ _) | (with_reducible refine bel_drewN ?_ _) | (with_reducible refine bel_drew ?_))) (Below.refl _ _)⟩
end Go.Proofs.Ytldgbnlcnlfmeaa

/- Bytes behind their length, rows of numbers as bytes. -/
namespace Go.Proofs.Ytldgbnlcnlfmeaa
open Go.RowKit
set_option linter.unusedVariables false
set_option linter.unusedSimpArgs false

theorem varint_lt : ∀ (k n : Nat), n < 128 ^ (k + 1) → (varint n).length ≤ k + 1
  | 0, n, h => by rw [varint, dif_pos (by omega)]; simp
  | k + 1, n, h => by
    rw [varint]
    by_cases hn : n < 128
    · rw [dif_pos hn]; simp
    · rw [dif_neg hn, List.length_cons]
      have := varint_lt k (n / 128) (by rw [Nat.div_lt_iff_lt_mul (by decide)]; rw [Nat.pow_succ] at h; exact h)
      omega
theorem appendVarint_len (b : List UInt8) (n : Int) : (f_AppendVarint b n).length ≤ b.length + 6 := by
  unfold f_AppendVarint
  split
  · rename_i h
    have := varint_lt 5 n.toNat (by omega)
    rw [List.length_append]; omega
  · omega
def f_AppendBytes (b s : List UInt8) : List UInt8 := f_AppendVarint b s.length ++ s
def f_EncodeInts (l : List Int) : List UInt8 := l.foldl f_AppendVarint []
theorem encodeInts_take (l : List Int) {k : Nat} (h : k < l.length) : f_EncodeInts (l.take (k + 1)) = f_AppendVarint (f_EncodeInts (l.take k)) l[k] := by
  unfold f_EncodeInts
  rw [List.take_succ_eq_append_getElem h, List.foldl_append]; rfl
theorem encodeInts_len (l : List Int) : (f_EncodeInts l).length ≤ 6 * l.length := by
  have : ∀ (l : List Int) (b : List UInt8), (l.foldl f_AppendVarint b).length ≤ b.length + 6 * l.length := by
    intro l
    induction l with
    | nil => intro b; simp
    | cons a l ih => intro b; have h1 := ih (f_AppendVarint b a); have h2 := appendVarint_len b a; rw [List.foldl_cons, List.length_cons]; omega
  have := this l []
  simpa [f_EncodeInts] using this
set_option maxHeartbeats 1000000 in
theorem C_spec_AppendBytes (w : World) (v1 v2 : Value) (b s : List UInt8) (h1 : (Ty.sl .byte).rd w [v1] b) (h2 : (Ty.sl .byte).rd w [v2] s) (hb : b.length ≤ 1099511627776) (hs : s.length ≤ 1099511627776) :
    Calls Try.prog 127 #[v1, v2] w (RetRow flatB w 5 (f_AppendBytes b s)) := by
  obtain ⟨A2, c2, rfl, hc2, hm2, hn2⟩ := Ty.rd_sl h2
  go_enter Try.func127, Try.ntmps127
  go_wp2_with fail
  refine (C_spec_AppendVarint _ _ b (s.length : Int) h1 hb (by omega)).mono ?_
  rintro e w1 ⟨u1, rfl, hr1, hb1⟩
  have HR := Lib.hid hr1
  clear hr1
  have HL := Lib.hid (appendVarint_len b s.length)
  have hz := hb1.size
  set_option maxRecDepth 100000 in go_wp2_with (at_builtin; go_loud (refine wpList_append_row rfl _ _ 22 rfl flatB w.heap.size 5 infoB rfl Try.underlying22 _ _ (f_AppendVarint b s.length) s rfl rfl HR.out (Ty.rd_below (by repeat' (first | (with_reducible exact Below.refl _ _) | (with_reducible assumption) | (with_reducible refine bel_set ?_ (by (try dsimp only); omega) _) | (with_reducible refine bel_alloc ?_ _) | (with_reducible refine bel_drewN ?_ _) | (with_reducible refine bel_drew ?_))) h2) ?_ ?_ ?_ ?_))
  case refine_1 => have := HL.out; omega
  case refine_2 => have := HL.out; unfold maxLen; omega
  case refine_3 => exact hz
  case refine_4 =>
    intro v' w' hr' hg'
    have hb' : Below w.heap.size w w' := bel_grown hb1 hz hg' (fun g hg => (HR.out.block g hg).1)
    have HR' := Lib.hid hr'
    clear hr'
    go_wp2
    go_ret
    exact ⟨_, rfl, HR'.out, hb'⟩
set_option maxHeartbeats 1000000 in
theorem C_spec_EncodeInts (w : World) (v : Value) (x : List Int) (h : (Ty.sl .int).rd w [v] x) (hx : x.length ≤ 100000000000) : Calls Try.prog 129 #[v] w (RetRow flatB w 5 (f_EncodeInts x)) := by
  obtain ⟨A, c, rfl, hc, hm, hn⟩ := Ty.rd_sl h
  go_enter Try.func129, Try.ntmps129
  go_wp2
  go_loopw [3, 4] (fun l i wr => ∃ k : Nat, k ≤ x.length ∧ i = .int .i64 k ∧ Row flatB wr w.heap.size 5 l (f_EncodeInts (x.take k)) ∧ Below w.heap.size w wr) (fun _ i _ => x.length - (intOf i).toNat)
  case atStart => exact ⟨0, by omega, rfl, Row.lit0 flatB w 5 (Nat.le_refl _), (by repeat' (first | (with_reducible exact Below.refl _ _) | (with_reducible assumption) | (with_reducible refine bel_set ?_ (by (try dsimp only); omega) _) | (with_reducible refine bel_alloc ?_ _) | (with_reducible refine bel_drewN ?_ _) | (with_reducible refine bel_drew ?_)))⟩
  case round =>
    obtain ⟨k, hk, rfl, hr, hb⟩ := hrel
    have HR := Lib.hid hr
    clear hr
    by_cases hlt : k < x.length
    · obtain ⟨b, o, rfl, e0, n0⟩ := Ty.rd_int_at (Ty.rd_below hb h) hlt
      have HP := Lib.hid (encodeInts_take x hlt)
      have HL := Lib.hid (encodeInts_len (x.take k))
      go_wp2_with fail
      refine (C_spec_AppendVarint _ _ (f_EncodeInts (x.take k)) x[k] (HR.out.rd hb.size) (by have := HL.out; rw [List.length_take] at this; omega) n0).mono ?_
      rintro e w1 ⟨u1, rfl, hr1, hb1⟩
      have hw1 : Below w.heap.size w w1 := bel_trans hb hb1
      have HR1 := Lib.hid (hr1.mono hb.size)
      clear hr1
      go_wp2
      go_roundw
      case rel => exact ⟨k + 1, by omega, by go_num, by rw [HP.out]; exact HR1.out, hw1⟩
      case measure => simp [intOf]; omega
    · have HE : Hid (f_EncodeInts (x.take k) = f_EncodeInts x) := by rw [List.take_of_length_le (by omega)]; exact rfl
      go_wp2
      go_ret
      exact ⟨_, rfl, by rw [← HE.out]; exact HR.out, hb⟩
set_option maxHeartbeats 1000000 in
theorem C_impl_AppendBytes (w : World) (v1 v2 : Value) (b s : List UInt8) (h1 : (Ty.sl .byte).rd w [v1] b) (h2 : (Ty.sl .byte).rd w [v2] s) (hb : b.length ≤ 1099511627776) (hs : s.length ≤ 1099511627776) :
    Calls Try.prog 115 #[v1, v2] w (RetRow flatB w 5 (f_AppendBytes b s)) := by
  obtain ⟨A2, c2, rfl, hc2, hm2, hn2⟩ := Ty.rd_sl h2
  go_enter Try.func115, Try.ntmps115
  go_wp2_with fail
  refine (C_impl_AppendVarint _ _ b (s.length : Int) h1 hb (by omega)).mono ?_
  rintro e w1 ⟨u1, rfl, hr1, hb1⟩
  have HR := Lib.hid hr1
  clear hr1
  have HL := Lib.hid (appendVarint_len b s.length)
  have hz := hb1.size
  set_option maxRecDepth 100000 in go_wp2_with (at_builtin; go_loud (refine wpList_append_row rfl _ _ 22 rfl flatB w.heap.size 5 infoB rfl Try.underlying22 _ _ (f_AppendVarint b s.length) s rfl rfl HR.out (Ty.rd_below (by repeat' (first | (with_reducible exact Below.refl _ _) | (with_reducible assumption) | (with_reducible refine bel_set ?_ (by (try dsimp only); omega) _) | (with_reducible refine bel_alloc ?_ _) | (with_reducible refine bel_drewN ?_ _) | (with_reducible refine bel_drew ?_))) h2) ?_ ?_ ?_ ?_))
  case refine_1 => have := HL.out; omega
  case refine_2 => have := HL.out; unfold maxLen; omega
  case refine_3 => exact hz
  case refine_4 =>
    intro v' w' hr' hg'
    have hb' : Below w.heap.size w w' := bel_grown hb1 hz hg' (fun g hg => (HR.out.block g hg).1)
    have HR' := Lib.hid hr'
    clear hr'
    go_wp2
    go_ret
    exact ⟨_, rfl, HR'.out, hb'⟩
set_option maxHeartbeats 1000000 in
theorem C_impl_EncodeInts (w : World) (v : Value) (x : List Int) (h : (Ty.sl .int).rd w [v] x) (hx : x.length ≤ 100000000000) : Calls Try.prog 116 #[v] w (RetRow flatB w 5 (f_EncodeInts x)) := by
  obtain ⟨A, c, rfl, hc, hm, hn⟩ := Ty.rd_sl h
  go_enter Try.func116, Try.ntmps116
  go_wp2
  go_loopw [3, 9] (fun l i wr => ∃ k : Nat, k ≤ x.length ∧ i = .int .i64 k ∧ Row flatB wr w.heap.size 5 l (f_EncodeInts (x.take k)) ∧ Below w.heap.size w wr) (fun _ i _ => x.length - (intOf i).toNat)
  case atStart => exact ⟨0, by omega, rfl, Row.lit0 flatB w 5 (Nat.le_refl _), (by repeat' (first | (with_reducible exact Below.refl _ _) | (with_reducible assumption) | (with_reducible refine bel_set ?_ (by (try dsimp only); omega) _) | (with_reducible refine bel_alloc ?_ _) | (with_reducible refine bel_drewN ?_ _) | (with_reducible refine bel_drew ?_)))⟩
  case round =>
    obtain ⟨k, hk, rfl, hr, hb⟩ := hrel
    have HR := Lib.hid hr
    clear hr
    by_cases hlt : k < x.length
    · obtain ⟨b, o, rfl, e0, n0⟩ := Ty.rd_int_at (Ty.rd_below hb h) hlt
      have HP := Lib.hid (encodeInts_take x hlt)
      have HL := Lib.hid (encodeInts_len (x.take k))
      go_wp2_with fail
      refine (C_impl_AppendVarint _ _ (f_EncodeInts (x.take k)) x[k] (HR.out.rd hb.size) (by have := HL.out; rw [List.length_take] at this; omega) n0).mono ?_
      rintro e w1 ⟨u1, rfl, hr1, hb1⟩
      have hw1 : Below w.heap.size w w1 := bel_trans hb hb1
      have HR1 := Lib.hid (hr1.mono hb.size)
      clear hr1
      go_wp2
      go_roundw
      case rel => exact ⟨k + 1, by omega, by go_num, by rw [HP.out]; exact HR1.out, hw1⟩
      case measure => simp [intOf]; omega
    · have HE : Hid (f_EncodeInts (x.take k) = f_EncodeInts x) := by rw [List.take_of_length_le (by omega)]; exact rfl
      go_wp2
      go_ret
      exact ⟨_, rfl, by rw [← HE.out]; exact HR.out, hb⟩
end Go.Proofs.Ytldgbnlcnlfmeaa

/- Names as bytes. -/
namespace Go.Proofs.Ytldgbnlcnlfmeaa
open Go.RowKit
set_option linter.unusedVariables false
set_option linter.unusedSimpArgs false

/-- The world and the value behind '[]byte(s)'. -/
def convW (W : World) (te : TypeId) (s : List UInt8) : World := W.drew.alloc (.cells (bytesRow ⟨s.toArray⟩ (grownCap W s.length 0 te)) te ((bytesRow ⟨s.toArray⟩ (grownCap W s.length 0 te)).size, (bytesRow ⟨s.toArray⟩ (grownCap W s.length 0 te)).size + 1))
theorem convW_bel (W : World) (te : TypeId) (s : List UInt8) : Below W.heap.size W (convW W te s) := bel_alloc (bel_drew (Below.refl _ _)) _
theorem convW_rd (W : World) (te : TypeId) (s : List UInt8) (hs : s.length ≤ 1099511627776) : (Ty.sl .byte).rd (convW W te s) [.slice (some ⟨W.heap.size, 0, none⟩) s.length (grownCap W s.length 0 te)] s := by
  refine ⟨_, _, rfl, grownCap_ge W _ _ _, ⟨grownCap_le_maxLen W _ _ _ (by unfold maxLen; omega), fun h => by cases h⟩, by show s.length ≤ _; omega, fun _ => ⟨W.heap.size, 0, rfl, fun i hi => ⟨[.int .u8 (s[i].toNat : Int)], rfl, fun j hj => ?_, rfl⟩⟩⟩
  have hj0 : j = 0 := by simp [Ty.sz] at hj; omega
  subst hj0
  have h1 := cell_of_row (convW W te s) W.heap.size (0 + i * Ty.byte.sz + 0) _ _ _ (heap_alloc_new W.drew _)
  rw [h1]
  have h2 := bytesRow_at ⟨s.toArray⟩ (grownCap W s.length 0 te) i (by simpa using hi)
  rw [show 0 + i * Ty.byte.sz + 0 = i from by simp [Ty.sz], h2]
  simp
theorem foldBytes_len : ∀ (l : List (List UInt8)) (b : List UInt8), (∀ s ∈ l, s.length ≤ 8) → (l.foldl f_AppendBytes b).length ≤ b.length + 14 * l.length
  | [], b, _ => by simp
  | s :: l, b, h => by
    have h1 := foldBytes_len l (f_AppendBytes b s) (fun t ht => h t (List.mem_cons_of_mem _ ht))
    have h2 := appendVarint_len b s.length
    have h3 := h s (List.mem_cons_self ..)
    have h4 : (f_AppendBytes b s).length = (f_AppendVarint b s.length).length + s.length := by unfold f_AppendBytes; rw [List.length_append]
    rw [List.foldl_cons, List.length_cons]; omega
theorem foldBytes_take (l : List (List UInt8)) (b : List UInt8) {k : Nat} (h : k < l.length) : (l.take (k + 1)).foldl f_AppendBytes b = f_AppendBytes ((l.take k).foldl f_AppendBytes b) l[k] := by
  rw [List.take_succ_eq_append_getElem h, List.foldl_append]; rfl
theorem validName_parts {n : List (List UInt8)} (h : validName n = true) : n.length ≤ 6 ∧ ∀ s ∈ n, s.length ≤ 8 := by
  unfold validName at h
  simp only [Bool.and_eq_true, decide_eq_true_eq, List.all_eq_true] at h
  refine ⟨h.2, fun s hs => ?_⟩
  have := h.1 s hs
  unfold validPart at this
  simp only [Bool.and_eq_true, decide_eq_true_eq] at this
  exact this.2.2
def nameBytes (b : List UInt8) (n : List (List UInt8)) : List UInt8 := n.foldl f_AppendBytes (f_AppendVarint b n.length)
def f_AppendName (b : List UInt8) (n : List (List UInt8)) : List UInt8 := if validName n then nameBytes b n else b
set_option maxHeartbeats 1000000 in
theorem C_impl_AppendName (w : World) (v1 : Value) (b : List UInt8) (cs : List Value) (n : List (List UInt8)) (h1 : (Ty.sl .byte).rd w [v1] b) (h2 : (Ty.sl .str).rd w cs n) (hb : b.length ≤ 1000000000000) :
    Calls Try.prog 114 #[v1, .agg cs.toArray] w (RetRow flatB w 5 (f_AppendName b n)) := by
  obtain ⟨A2, c2, rfl⟩ := Ty.rd_slv h2
  obtain ⟨_, _, _, _, _, n2⟩ := Ty.rd_sl h2
  have hconv : ∀ (W : World) (s : List UInt8), (convert 9 22 (vS s)).run Try.prog W = .ok (.slice (some ⟨W.heap.size, 0, none⟩) s.length (grownCap W s.length 0 5)) (convW W 5 s) := fun W s => run_bytes_of_string W _ _ _ ⟨s.toArray⟩ Try.underlying9 Try.underlying22 Try.underlying5
  go_enter Try.func114, Try.ntmps114
  go_wp2_with fail
  refine (C_impl_ValidName _ _ _ (Ty.rd_below (by repeat' (first | (with_reducible exact Below.refl _ _) | (with_reducible assumption) | (with_reducible refine bel_set ?_ (by (try dsimp only); omega) _) | (with_reducible refine bel_alloc ?_ _) | (with_reducible refine bel_drewN ?_ _) | (with_reducible refine bel_drew ?_))) h2)).mono ?_
  rintro e w1 ⟨rfl, hb1⟩
  have hw1 : Below w.heap.size w w1 := bel_trans (by repeat' (first | (with_reducible exact Below.refl _ _) | (with_reducible assumption) | (with_reducible refine bel_set ?_ (by (try dsimp only); omega) _) | (with_reducible refine bel_alloc ?_ _) | (with_reducible refine bel_drewN ?_ _) | (with_reducible refine bel_drew ?_))) hb1
  obtain ⟨hc1, hf1⟩ := bcell hb1
  have z1 : w.heap.size < w1.heap.size := by have := hb1.size; simp only [World.size_alloc] at this; omega
  have HF := Lib.hid (show f_AppendName b n = if validName n then nameBytes b n else b from rfl)
  cases hq : validName n
  · rw [hq] at HF
    go_wp2_with fail
    refine (C_slices_Clone_byte _ _ b (Ty.rd_below hw1 h1) (by omega)).mono ?_
    rintro e w2 ⟨u2, rfl, hr2, hb2⟩
    have HR := Lib.hid (hr2.mono hw1.size)
    clear hr2
    go_wp2
    go_ret
    exact ⟨_, rfl, by rw [HF.out]; exact HR.out, bel_trans hw1 hb2⟩
  · rw [hq] at HF
    have HV := Lib.hid (validName_parts hq)
    have hl6 := HV.out.1
    go_wp2_with fail
    refine (C_impl_AppendVarint _ _ b (n.length : Int) (Ty.rd_below hw1 h1) (by omega) (by omega)).mono ?_
    rintro e w2 ⟨u2, rfl, hr2, hb2⟩
    have hw2 : Below w.heap.size w w2 := bel_trans hw1 hb2
    have HR := Lib.hid (hr2.mono hw1.size)
    clear hr2
    obtain ⟨hc2, hf2⟩ := bcell hb2
    have HL0 := Lib.hid (appendVarint_len b n.length)
    go_wp2
    go_loopw [5, 21] (fun l i wr => ∃ k : Nat, k ≤ n.length ∧ i = .int .i64 k ∧ Row flatB wr w.heap.size 5 l ((n.take k).foldl f_AppendBytes (f_AppendVarint b n.length)) ∧ Below w.heap.size w wr) (fun _ i _ => n.length - (intOf i).toNat)
    case atStart => exact ⟨0, by omega, rfl, HR.out, hw2⟩
    case round =>
      obtain ⟨k, hk, rfl, hr, hbr⟩ := hrel
      have HRr := Lib.hid hr
      clear hr
      by_cases hlt : k < n.length
      · obtain ⟨ab, ao, rfl, e0, m0⟩ := Ty.rd_str_at (Ty.rd_below hbr h2) hlt
        have HP := Lib.hid (foldBytes_take n (f_AppendVarint b n.length) hlt)
        have HL := Lib.hid (foldBytes_len (n.take k) (f_AppendVarint b n.length) (fun s hs => HV.out.2 s (List.mem_of_mem_take hs)))
        have hp8 : n[k].length ≤ 8 := HV.out.2 _ (List.getElem_mem hlt)
        go_wp2_with fail
        refine (C_impl_AppendBytes _ _ _ ((n.take k).foldl f_AppendBytes (f_AppendVarint b n.length)) n[k] ((HRr.out.below (convW_bel wr _ _)).rd (Nat.le_trans hbr.size (convW_bel wr _ _).size)) (convW_rd wr 5 n[k] (by omega)) (by have h3 := HL.out; have h4 := HL0.out; rw [List.length_take] at h3; omega) (by omega)).mono ?_
        rintro e w3 ⟨u3, rfl, hr3, hb3⟩
        have hb3' := bel_trans (convW_bel wr _ _) hb3
        have hw3 : Below w.heap.size w w3 := bel_trans hbr hb3'
        have HR3 := Lib.hid (hr3.mono (Nat.le_trans hbr.size (convW_bel wr _ _).size))
        clear hr3
        go_wp2
        go_roundw
        case rel => exact ⟨k + 1, by omega, by go_num, by rw [HP.out]; exact HR3.out, hw3⟩
        case measure => simp [intOf]; omega
      · have HE : Hid ((n.take k).foldl f_AppendBytes (f_AppendVarint b n.length) = nameBytes b n) := by rw [List.take_of_length_le (by omega)]; exact rfl
        go_wp2
        go_ret
        exact ⟨_, rfl, by rw [HF.out, ← HE.out]; exact HRr.out, hbr⟩
set_option maxHeartbeats 1000000 in
theorem C_spec_AppendName (w : World) (v1 : Value) (b : List UInt8) (cs : List Value) (n : List (List UInt8)) (h1 : (Ty.sl .byte).rd w [v1] b) (h2 : (Ty.sl .str).rd w cs n) (hb : b.length ≤ 1000000000000) :
    Calls Try.prog 128 #[v1, .agg cs.toArray] w (RetRow flatB w 5 (f_AppendName b n)) := by
  obtain ⟨A2, c2, rfl⟩ := Ty.rd_slv h2
  obtain ⟨_, _, _, _, _, n2⟩ := Ty.rd_sl h2
  have hconv : ∀ (W : World) (s : List UInt8), (convert 9 22 (vS s)).run Try.prog W = .ok (.slice (some ⟨W.heap.size, 0, none⟩) s.length (grownCap W s.length 0 5)) (convW W 5 s) := fun W s => run_bytes_of_string W _ _ _ ⟨s.toArray⟩ Try.underlying9 Try.underlying22 Try.underlying5
  go_enter Try.func128, Try.ntmps128
  have hl0 : Row flatB ((w.alloc (.cells #[.slice A2 n.length c2] 27)).alloc (.cells #[] 5)) w.heap.size 5 (.slice (some ⟨w.heap.size + 1, 0, none⟩) 0 0) [] := by
    have := Row.lit0 flatB (w.alloc (.cells #[.slice A2 n.length c2] 27)) 5 (base := w.heap.size) (by rw [World.size_alloc]; omega)
    rwa [World.size_alloc] at this
  have HL00 := Lib.hid hl0
  clear hl0
  set_option maxRecDepth 100000 in go_wp2_with (at_builtin; go_loud (refine wpList_append_row rfl _ _ 22 rfl flatB w.heap.size 5 infoB rfl Try.underlying22 _ _ [] b rfl rfl HL00.out (Ty.rd_below (by repeat' (first | (with_reducible exact Below.refl _ _) | (with_reducible assumption) | (with_reducible refine bel_set ?_ (by (try dsimp only); omega) _) | (with_reducible refine bel_alloc ?_ _) | (with_reducible refine bel_drewN ?_ _) | (with_reducible refine bel_drew ?_))) h1) ?_ ?_ ?_ ?_))
  case refine_1 => simp only [List.length_nil]; omega
  case refine_2 => simp only [List.length_nil]; unfold maxLen; omega
  case refine_3 => simp only [World.size_alloc]; omega
  intro v0 w0 hr0 hg0
  have hb0 : Below w.heap.size w w0 := bel_grown (by repeat' (first | (with_reducible exact Below.refl _ _) | (with_reducible assumption) | (with_reducible refine bel_set ?_ (by (try dsimp only); omega) _) | (with_reducible refine bel_alloc ?_ _) | (with_reducible refine bel_drewN ?_ _) | (with_reducible refine bel_drew ?_))) (by (try simp only [World.size_alloc, World.size_setCell, size_drewN, World.size_drew]); omega) hg0 (fun g hg => by simp [Value.ownBlock] at hg; omega)
  have hcl0 : w0.cell? ⟨w.heap.size, 0, none⟩ = some (.slice A2 n.length c2) := hg0.cell (by rw [World.cell?_alloc_lt _ _ _ (by simp only [World.size_alloc]; omega)]; exact cell_new w _ _ 0 rfl) (by simp [Value.ownBlock])
  have z0 : w.heap.size < w0.heap.size := World.block_lt_of_cell? w0 _ hcl0
  have HR0 := Lib.hid hr0
  clear hr0
  go_wp2_with fail
  refine (C_spec_ValidName _ _ _ (Ty.rd_below hb0 h2)).mono ?_
  rintro e w1 ⟨rfl, hb1⟩
  have hw1 : Below w.heap.size w w1 := bel_trans hb0 hb1
  obtain ⟨hc1, hf1⟩ := bcell hb1
  have z1 : w.heap.size < w1.heap.size := Nat.lt_of_lt_of_le z0 hb1.size
  have HR1 := Lib.hid (HR0.out.below hb1)
  have HF := Lib.hid (show f_AppendName b n = if validName n then nameBytes b n else b from rfl)
  cases hq : validName n
  · rw [hq] at HF
    go_wp2
    go_ret
    exact ⟨_, rfl, by rw [HF.out]; exact HR1.out, hw1⟩
  · rw [hq] at HF
    have HV := Lib.hid (validName_parts hq)
    have hl6 := HV.out.1
    go_wp2_with fail
    refine (C_spec_AppendVarint _ _ b (n.length : Int) (HR1.out.rd hw1.size) (by omega) (by omega)).mono ?_
    rintro e w2 ⟨u2, rfl, hr2, hb2⟩
    have hw2 : Below w.heap.size w w2 := bel_trans hw1 hb2
    have HR := Lib.hid (hr2.mono hw1.size)
    clear hr2
    have hcl2 : w2.cell? ⟨w.heap.size, 0, none⟩ = some (.slice A2 n.length c2) := (hb2.cell (p := ⟨w.heap.size, 0, none⟩) z1).trans ((hb1.cell (p := ⟨w.heap.size, 0, none⟩) z0).trans hcl0)
    have HL0 := Lib.hid (appendVarint_len b n.length)
    go_wp2
    go_loopw [5, 6] (fun l i wr => ∃ k : Nat, k ≤ n.length ∧ i = .int .i64 k ∧ Row flatB wr w.heap.size 5 l ((n.take k).foldl f_AppendBytes (f_AppendVarint b n.length)) ∧ Below w.heap.size w wr ∧ wr.cell? ⟨w.heap.size, 0, none⟩ = some (.slice A2 n.length c2)) (fun _ i _ => n.length - (intOf i).toNat)
    case atStart => exact ⟨0, by omega, rfl, HR.out, hw2, hcl2⟩
    case round =>
      obtain ⟨k, hk, rfl, hr, hbr, hcr⟩ := hrel
      have zr : w.heap.size < wr.heap.size := World.block_lt_of_cell? wr _ hcr
      have HRr := Lib.hid hr
      clear hr
      have hclr := hcr
      by_cases hlt : k < n.length
      · obtain ⟨ab, ao, rfl, e0, m0⟩ := Ty.rd_str_at (Ty.rd_below hbr h2) hlt
        have HP := Lib.hid (foldBytes_take n (f_AppendVarint b n.length) hlt)
        have HL := Lib.hid (foldBytes_len (n.take k) (f_AppendVarint b n.length) (fun s hs => HV.out.2 s (List.mem_of_mem_take hs)))
        have hp8 : n[k].length ≤ 8 := HV.out.2 _ (List.getElem_mem hlt)
        go_wp2_with fail
        refine (C_spec_AppendBytes _ _ _ ((n.take k).foldl f_AppendBytes (f_AppendVarint b n.length)) n[k] ((HRr.out.below (convW_bel wr _ _)).rd (Nat.le_trans hbr.size (convW_bel wr _ _).size)) (convW_rd wr 5 n[k] (by omega)) (by have h3 := HL.out; have h4 := HL0.out; rw [List.length_take] at h3; omega) (by omega)).mono ?_
        rintro e w3 ⟨u3, rfl, hr3, hb3⟩
        have hb3' := bel_trans (convW_bel wr _ _) hb3
        have hw3 : Below w.heap.size w w3 := bel_trans hbr hb3'
        have HR3 := Lib.hid (hr3.mono (Nat.le_trans hbr.size (convW_bel wr _ _).size))
        clear hr3
        go_wp2
        go_roundw
        case rel => exact ⟨k + 1, by omega, by go_num, by rw [HP.out]; exact HR3.out, hw3, (hb3'.cell (p := ⟨w.heap.size, 0, none⟩) zr).trans hclr⟩
        case measure => simp [intOf]; omega
      · have HE : Hid ((n.take k).foldl f_AppendBytes (f_AppendVarint b n.length) = nameBytes b n) := by rw [List.take_of_length_le (by omega)]; exact rfl
        go_wp2
        go_ret
        exact ⟨_, rfl, by rw [HF.out, ← HE.out]; exact HRr.out, hbr⟩
end Go.Proofs.Ytldgbnlcnlfmeaa

/- Secrets, codes. -/
namespace Go.Proofs.Ytldgbnlcnlfmeaa
open Go.RowKit
set_option linter.unusedVariables false
set_option linter.unusedSimpArgs false

def mac (s : Int) (l : List Int) : Int := digest (s :: (l ++ [s]))
set_option maxHeartbeats 400000 in
theorem C_spec_ValidSecret (w : World) (n : Int) : Calls Try.prog 132 #[.int .i64 n] w (RetBP w (inR n 1 2147483646)) := by
  go_enter Try.func132, Try.ntmps132
  go_wp2_with fail
  refine (C_spec_l1In _ _ _ _).mono ?_
  rintro e w1 ⟨rfl, rfl⟩
  go_wp2
  go_ret
  exact ⟨rfl, rfl⟩
set_option maxHeartbeats 400000 in
theorem C_impl_ValidSecret (w : World) (n : Int) : Calls Try.prog 65 #[.int .i64 n] w (RetBP w (inR n 1 2147483646)) := by
  go_enter Try.func65, Try.ntmps65
  go_wp2_with fail
  refine (C_impl_InRange _ _ _ _).mono ?_
  rintro e w1 ⟨rfl, rfl⟩
  go_wp2
  go_ret
  exact ⟨rfl, rfl⟩
set_option maxHeartbeats 1000000 in
theorem C_spec_ComputeMAC (w : World) (v : Value) (s : Int) (x : List Int) (hs : -9223372036854775808 ≤ s ∧ s ≤ 9223372036854775807) (h : (Ty.sl .int).rd w [v] x) (hx : x.length ≤ 1099511627776) :
    Calls Try.prog 131 #[.int .i64 s, v] w (RetI w (mac s x)) := by
  obtain ⟨A, c, rfl, hc, hm, hn⟩ := Ty.rd_sl h
  have HS0 := Lib.hid (Row.lit1 flatI w 3 s (okI hs.1 hs.2) (Nat.le_refl _))
  go_enter Try.func131, Try.ntmps131
  set_option maxRecDepth 100000 in go_wp2_with (at_builtin; go_loud (refine wpList_append_row rfl _ _ 92 rfl flatI w.heap.size 3 infoI rfl Try.underlying92 _ _ [s] x rfl rfl HS0.out (Ty.rd_below (by repeat' (first | (with_reducible exact Below.refl _ _) | (with_reducible assumption) | (with_reducible refine bel_set ?_ (by (try dsimp only); omega) _) | (with_reducible refine bel_alloc ?_ _) | (with_reducible refine bel_drewN ?_ _) | (with_reducible refine bel_drew ?_))) h) ?_ ?_ ?_ ?_))
  case refine_1 => simp only [List.length_cons, List.length_nil]; omega
  case refine_2 => simp only [List.length_cons, List.length_nil]; unfold maxLen; omega
  case refine_3 => simp only [World.size_alloc]; omega
  intro v1 w1 hr1 hg1
  have hb1 : Below w.heap.size w w1 := bel_grown (by repeat' (first | (with_reducible exact Below.refl _ _) | (with_reducible assumption) | (with_reducible refine bel_set ?_ (by (try dsimp only); omega) _) | (with_reducible refine bel_alloc ?_ _) | (with_reducible refine bel_drewN ?_ _) | (with_reducible refine bel_drew ?_))) (by (try simp only [World.size_alloc, World.size_setCell, size_drewN, World.size_drew]); omega) hg1 (fun g hg => by simp [Value.ownBlock] at hg; omega)
  have HR1 := Lib.hid hr1
  clear hr1
  have HS1 := Lib.hid (Row.lit1 flatI w1 3 s (okI hs.1 hs.2) (Nat.le_refl _))
  have hz1 := hb1.size
  set_option maxRecDepth 100000 in go_wp2_with (at_builtin; go_loud (refine wpList_append_row rfl _ _ 92 rfl flatI w.heap.size 3 infoI rfl Try.underlying92 _ _ ([s] ++ x) [s] rfl rfl (HR1.out.below (by repeat' (first | (with_reducible exact Below.refl _ _) | (with_reducible assumption) | (with_reducible refine bel_set ?_ (by (try dsimp only); omega) _) | (with_reducible refine bel_alloc ?_ _) | (with_reducible refine bel_drewN ?_ _) | (with_reducible refine bel_drew ?_)))) (HS1.out.rd (by (try simp only [World.size_alloc, World.size_setCell, size_drewN, World.size_drew]); omega)) ?_ ?_ ?_ ?_))
  case refine_1 => simp only [List.length_append, List.length_cons, List.length_nil]; omega
  case refine_2 => simp only [List.length_append, List.length_cons, List.length_nil]; unfold maxLen; omega
  case refine_3 => simp only [World.size_alloc]; omega
  intro v2 w2 hr2 hg2
  have hb2 : Below w.heap.size w w2 := bel_grown (bel_alloc hb1 _) (by (try simp only [World.size_alloc, World.size_setCell, size_drewN, World.size_drew]); omega) hg2 (fun g hg => (HR1.out.block g hg).1)
  have HR2 := Lib.hid hr2
  clear hr2
  go_wp2_with fail
  refine (C_spec_Digest _ _ (s :: (x ++ [s])) (HR2.out.rd hb2.size)).mono ?_
  rintro e w3 ⟨rfl, hb3⟩
  have hw3 : Below w.heap.size w w3 := bel_trans hb2 hb3
  go_wp2
  go_ret
  exact ⟨rfl, hw3⟩
end Go.Proofs.Ytldgbnlcnlfmeaa

/- slices.Grow and slices.Concat at numbers. -/
namespace Go.Proofs.Ytldgbnlcnlfmeaa
open Go.RowKit
set_option linter.unusedVariables false
set_option linter.unusedSimpArgs false

set_option maxHeartbeats 1000000 in
theorem C_slices_Grow_int (w : World) (n : Nat) (h0 : 0 < n) (hn : n ≤ 1099511627776) : Calls Try.prog 168 #[.slice none 0 0, .int .i64 n] w (RetRow flatI w 3 []) := by
  obtain ⟨i, hi, hzz⟩ := Option.map_eq_some_iff.1 infoI
  simp only [Prod.mk.injEq] at hzz
  obtain ⟨hz, hsz, hby⟩ := hzz
  have hap := Lib.run_append_nil_zeros (P := Try.prog) w 92 3 92 3 i (.int .i64 0) .i64 .i64 Try.underlying92 Try.underlying3 hi hz n h0 (by omega) (by omega) (by rw [hby]; omega)
  have hge := grownCap_ge w n 0 3
  have hle := grownCap_le_maxLen w n 0 3 (by unfold maxLen; omega)
  generalize grownCap w n 0 3 = cap at hap hge hle
  have hrow : Row flatI (w.drew.alloc (.cells (Builtin.zeroCells (Value.int .i64 0).cells n ++ Builtin.zeroCells (Value.int .i64 0).cells (cap - n)) 3)) w.heap.size 3 (.slice (some ⟨w.heap.size, 0, none⟩) 0 cap) [] :=
    ⟨⟨rfl, .inr ⟨w.heap.size, cap, _, rfl, Nat.le_refl _, heap_alloc_new w.drew _, Nat.zero_le _, hle, by rw [Array.size_append, size_zeroCells, size_zeroCells]; simp [Value.cells]; omega, rfl⟩⟩, fun d hd => absurd hd (by simp)⟩
  have HROW := Lib.hid hrow
  have HAP := Lib.hid hap
  clear hrow hap hi hz hsz hby
  have hnz : (0 : Int) < n := by omega
  have hcap : (cap : Int) ≤ 9223372036854775807 := by unfold maxLen at hle; omega
  go_enter Try.func168, Try.ntmps168
  set_option maxRecDepth 100000 in go_wp2_with (at_builtin; go_loud (refine Lib.wpList_append_run _ rfl _ _ _ _ rfl _ _ rfl rfl _ _ HAP.out ?_))
  have hbel : Below w.heap.size w (w.drew.alloc (.cells (Builtin.zeroCells (Value.int .i64 0).cells n ++ Builtin.zeroCells (Value.int .i64 0).cells (cap - n)) 3)) := bel_alloc (bel_drew (Below.refl _ _)) _
  go_wp2
  go_ret
  exact ⟨_, rfl, HROW.out, hbel⟩
theorem flatten_take {α : Type} (xs : List (List α)) {k : Nat} (h : k < xs.length) : (xs.take (k + 1)).flatten = (xs.take k).flatten ++ xs[k] := by
  rw [List.take_succ_eq_append_getElem h, List.flatten_append]; simp
theorem sum_take_le {α : Type} (f : α → Nat) (xs : List α) (k : Nat) : ((xs.take k).map f).sum ≤ (xs.map f).sum := by
  rw [← List.take_append_drop k xs, List.map_append, List.sum_append, List.take_append_drop]; omega
set_option maxHeartbeats 1000000 in
theorem C_slices_Concat_int (w : World) (v : Value) (xs : List (List Int)) (h : (Ty.sl (.sl .int)).rd w [v] xs) (h0 : 0 < (xs.map List.length).sum) (hx : (xs.map List.length).sum ≤ 1099511627776) :
    Calls Try.prog 134 #[v] w (RetRow flatI w 3 xs.flatten) := by
  obtain ⟨A, c, rfl, hc, hm, hn⟩ := Ty.rd_sl h
  go_enter Try.func134, Try.ntmps134
  go_wp2
  go_loopw [3, 11] (fun s i wr => ∃ k : Nat, k ≤ xs.length ∧ i = .int .i64 k ∧ s = .int .i64 (((xs.take k).map List.length).sum : Nat) ∧ wr = w) (fun _ i _ => xs.length - (intOf i).toNat)
  case atStart => exact ⟨0, by omega, rfl, by simp, rfl⟩
  case round =>
    obtain ⟨k, hk, rfl, rfl, hwr⟩ := hrel
    obtain rfl : w = wr := hwr.symm
    clear hwr
    by_cases hlt : k < xs.length
    · obtain ⟨b, o, ds, rfl, hl, hcell, hrd⟩ := Ty.rd_at h hlt
      obtain ⟨A1, c1, rfl⟩ := Ty.rd_slv hrd
      have e0 : w.cell? ⟨b, o + k, none⟩ = some (.slice A1 (List.length xs[k]) c1) := by simpa [Ty.sz] using hcell 0 (by decide)
      clear hcell hl
      have HS := Lib.hid (sum_take_succ List.length xs hlt)
      have hb1 := sum_take_le List.length xs (k + 1)
      rw [HS.out] at hb1
      generalize ((xs.take k).map List.length).sum = s at HS hb1 ⊢
      go_wp2
      go_roundw
      case rel => exact ⟨k + 1, by omega, by go_num, by rw [HS.out]; go_num, by first | rfl | trivial⟩
      case measure => simp [intOf]; omega
    · have hE : (xs.take k).map List.length = xs.map List.length := by rw [List.take_of_length_le (by omega)]
      rw [hE]
      clear hE
      generalize hT : (xs.map List.length).sum = T at h0 hx ⊢
      have HT := Lib.hid hT
      clear hT
      go_wp2_with fail
      refine (C_slices_Grow_int _ T h0 hx).mono ?_
      rintro e w1 ⟨v1, rfl, hr1, hb1⟩
      have HR1 := Lib.hid hr1
      clear hr1
      go_wp2
      go_loopw [6, 27] (fun l i wr2 => ∃ k : Nat, k ≤ xs.length ∧ i = .int .i64 k ∧ Row flatI wr2 w.heap.size 3 l (xs.take k).flatten ∧ Below w.heap.size w wr2) (fun _ i _ => xs.length - (intOf i).toNat)
      case atStart => exact ⟨0, by omega, rfl, HR1.out, hb1⟩
      case round =>
        obtain ⟨k2, hk2, rfl, hr, hb⟩ := hrel
        have HR := Lib.hid hr
        clear hr
        by_cases hlt2 : k2 < xs.length
        · obtain ⟨b, o, ds, rfl, hl, hcell, hrd⟩ := Ty.rd_at (Ty.rd_below hb h) hlt2
          obtain ⟨A1, c1, rfl⟩ := Ty.rd_slv hrd
          have e0 : wr.cell? ⟨b, o + k2, none⟩ = some (Value.slice A1 (List.length xs[k2]) c1) := by simpa [Ty.sz] using hcell 0 (by decide)
          clear hcell hl
          have HP := Lib.hid (flatten_take xs hlt2)
          have HS := Lib.hid (sum_take_succ List.length xs hlt2)
          have HB := Lib.hid (sum_take_le List.length xs (k2 + 1))
          have HL := Lib.hid (show ((xs.take k2).flatten).length = ((xs.take k2).map List.length).sum from by rw [List.length_flatten])
          set_option maxRecDepth 100000 in go_wp2_with (at_builtin; go_loud (refine wpList_append_row rfl _ _ 92 rfl flatI w.heap.size 3 infoI rfl Try.underlying92 _ _ (xs.take k2).flatten xs[k2] rfl rfl HR.out hrd ?_ ?_ ?_ ?_))
          case refine_1 => have h1 := HS.out; have h2 := HB.out; have h3 := HL.out; have h4 := HT.out; omega
          case refine_2 => have h1 := HS.out; have h2 := HB.out; have h3 := HL.out; have h4 := HT.out; unfold maxLen; omega
          case refine_3 => exact hb.size
          case refine_4 =>
            intro v' w' hr' hg'
            have hb' : Below w.heap.size w w' := bel_grown hb hb.size hg' (fun g hg => (HR.out.block g hg).1)
            have HR' := Lib.hid hr'
            clear hr'
            go_wp2
            go_roundw
            case rel => exact ⟨k2 + 1, by omega, by go_num, by rw [HP.out]; exact HR'.out, hb'⟩
            case measure => simp [intOf]; omega
        · have HE : Hid ((xs.take k2).flatten = xs.flatten) := by rw [List.take_of_length_le (by omega)]; exact rfl
          go_wp2
          go_ret
          exact ⟨_, rfl, by rw [← HE.out]; exact HR.out, hb⟩
theorem rd_lit3 (w : World) (te : TypeId) {e : Ty} (hz : e.sz = 1) (a b c : Value) (x y z : e.D) (h1 : e.rd w [a] x) (h2 : e.rd w [b] y) (h3 : e.rd w [c] z) :
    (Ty.sl e).rd (w.alloc (.cells #[a, b, c] te)) [.slice (some ⟨w.heap.size, 0, none⟩) 3 3] [x, y, z] := by
  have hb : Below w.heap.size w (w.alloc (.cells #[a, b, c] te)) := bel_alloc (Below.refl _ _) _
  refine ⟨_, _, rfl, Nat.le_refl _, ⟨by unfold maxLen; omega, fun h => by cases h⟩, by show 3 ≤ _; omega, fun _ => ⟨w.heap.size, 0, rfl, fun i hi => ?_⟩⟩
  have hi3 : i < 3 := hi
  have hc : ∀ j, (w.alloc (.cells #[a, b, c] te)).cell? ⟨w.heap.size, j, none⟩ = #[a, b, c][j]? := fun j => cell_new w te _ j rfl
  rcases i with _ | _ | _ | i
  · refine ⟨[a], by rw [hz]; rfl, fun j hj => ?_, Ty.rd_below hb h1⟩
    rw [hz] at hj
    obtain rfl : j = 0 := by omega
    rw [hc, hz]
    rfl
  · refine ⟨[b], by rw [hz]; rfl, fun j hj => ?_, Ty.rd_below hb h2⟩
    rw [hz] at hj
    obtain rfl : j = 0 := by omega
    rw [hc, hz]
    rfl
  · refine ⟨[c], by rw [hz]; rfl, fun j hj => ?_, Ty.rd_below hb h3⟩
    rw [hz] at hj
    obtain rfl : j = 0 := by omega
    rw [hc, hz]
    rfl
  · omega
set_option maxHeartbeats 1000000 in
theorem C_impl_ComputeMAC (w : World) (v : Value) (s : Int) (x : List Int) (hs : -9223372036854775808 ≤ s ∧ s ≤ 9223372036854775807) (h : (Ty.sl .int).rd w [v] x) (hx : x.length ≤ 1000000000000) :
    Calls Try.prog 130 #[.int .i64 s, v] w (RetI w (mac s x)) := by
  obtain ⟨A, c, rfl, hc, hm, hn⟩ := Ty.rd_sl h
  have H1 := Ty.rd_below (w' := (w.alloc (.cells #[.int .i64 s] 3)).alloc (.cells #[.int .i64 s] 3)) (bel_alloc (Below.refl _ _) _) ((Row.lit1 flatI w 3 s (okI hs.1 hs.2) (Nat.le_refl _)).rd (by simp only [World.size_alloc]; omega))
  have H2 := (Row.lit1 flatI (w.alloc (.cells #[.int .i64 s] 3)) 3 s (okI hs.1 hs.2) (Nat.le_refl _)).rd (by simp only [World.size_alloc]; omega)
  have H3 := rd_lit3 ((w.alloc (.cells #[.int .i64 s] 3)).alloc (.cells #[.int .i64 s] 3)) 92 (e := .sl .int) rfl _ _ _ [s] x [s] H1 (Ty.rd_below (bel_alloc (bel_alloc (Below.refl _ _) _) _) h) H2
  simp only [World.size_alloc] at H3
  have HR := Lib.hid H3
  clear H1 H2 H3
  go_enter Try.func130, Try.ntmps130
  go_wp2_with fail
  refine (C_slices_Concat_int _ _ [[s], x, [s]] HR.out (by simp only [List.map_cons, List.map_nil, List.sum_cons, List.sum_nil, List.length_cons, List.length_nil]; omega) (by simp only [List.map_cons, List.map_nil, List.sum_cons, List.sum_nil, List.length_cons, List.length_nil]; omega)).mono ?_
  rintro e w1 ⟨v1, rfl, hr1, hb1⟩
  have hw1 : Below w.heap.size w w1 := bel_trans (by repeat' (first | (with_reducible exact Below.refl _ _) | (with_reducible assumption) | (with_reducible refine bel_set ?_ (by (try dsimp only); omega) _) | (with_reducible refine bel_alloc ?_ _) | (with_reducible refine bel_drewN ?_ _) | (with_reducible refine bel_drew ?_))) hb1
  have HR1 := Lib.hid hr1
  clear hr1
  go_wp2_with fail
  refine (C_impl_Digest _ _ _ (HR1.out.rd hb1.size)).mono ?_
  rintro e w2 ⟨rfl, hb2⟩
  have hw2 : Below w.heap.size w w2 := bel_trans hw1 hb2
  go_wp2
  go_ret
  exact ⟨ret_int (by unfold mac; simp), hw2⟩
end Go.Proofs.Ytldgbnlcnlfmeaa
