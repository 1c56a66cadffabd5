/- Rows of structs in one known block: cut within, cleared behind. No program in sight. -/
import Derived.Test.YtpjnidfdkggpfaaDrf
import Derived.Laws.CopyRow
import Derived.Maps.AppendAt
namespace Go.Proofs.Ytpjnidfdkggpfaa
open Go.RowKit
set_option linter.unusedVariables false
set_option linter.unusedSimpArgs false

theorem fmr_split {α : Type} (f : Nat → List α) (a b : Nat) : (List.range (a + b)).flatMap f = (List.range a).flatMap f ++ (List.range b).flatMap (fun i => f (a + i)) := by
  rw [List.range_add, List.flatMap_append, List.flatMap_map]
theorem fmr_one {α : Type} (f : Nat → List α) (a : Nat) : (List.range 1).flatMap (fun i => f (a + i)) = f a := by simp
/-- Without the k-th element. -/
def dropAt {α : Type} (l : List α) (k : Nat) : List α := l.take k ++ l.drop (k + 1)
theorem dropAt_len {α : Type} {l : List α} {k : Nat} (h : k < l.length) : (dropAt l k).length = l.length - 1 := by
  unfold dropAt; rw [List.length_append, List.length_take, List.length_drop]; omega
theorem DRow.toF {e : Ty} {w : World} {base : Nat} {te : TypeId} {v : Value} {x : List e.D} (h : DRow e w base te v x) : ∃ fp, DRowF e w base te v x fp ∧ FrI base w.heap.size fp := by
  obtain ⟨css, fs, h1, h2, h3, h4⟩ := h
  exact ⟨_, ⟨css, fs, h1, h2, rfl, h4⟩, h3⟩
/-- A row, its own block told whole. -/
theorem DRowF.parts {e : Ty} {w : World} {base : Nat} {te : TypeId} {v : Value} {x : List e.D} {fp : List Nat} (h : DRowF e w base te v x fp) (h0 : 0 < x.length) :
    ∃ (g cap : Nat) (cur : Array Value) (css : Nat → List Value) (fs : Nat → List Nat), v = .slice (some ⟨g, 0, none⟩) x.length cap ∧ base ≤ g ∧ Blk w g te cur ∧ x.length ≤ cap ∧ cap ≤ maxLen ∧ cur.size = cap * e.sz ∧ cur.toList.take (x.length * e.sz) = (List.range x.length).flatMap css ∧
      (∀ i (h : i < x.length), (css i).length = e.sz ∧ e.ow w (css i) x[i] (fs i)) ∧ fp = (List.range x.length).flatMap fs ∧ g ∉ fp := by
  obtain ⟨css, fs, h1, h2, h3, h4⟩ := h
  rcases h1.2 with ⟨_, hn⟩ | ⟨g, cap, cur, rfl, hbg, hg, hnc, hcm, hcs, htake⟩
  · omega
  · exact ⟨g, cap, cur, css, fs, rfl, hbg, hg, hnc, hcm, hcs, htake, h2, h3, h4 g rfl⟩
/-- The blocks of all but the k-th element. -/
def fpDrop (fs : Nat → List Nat) (n k : Nat) : List Nat := (List.range k).flatMap fs ++ (List.range (n - (k + 1))).flatMap (fun i => fs (k + 1 + i))
theorem fmr_three {α : Type} (fs : Nat → List α) {n k : Nat} (hk : k < n) : (List.range n).flatMap fs = (List.range k).flatMap fs ++ (fs k ++ (List.range (n - (k + 1))).flatMap (fun i => fs (k + 1 + i))) := by
  rw [show List.range n = List.range (k + (1 + (n - (k + 1)))) from by rw [show k + (1 + (n - (k + 1))) = n from by omega], fmr_split, fmr_split, fmr_one]
  congr 2
  exact fmr_congr (fun i _ => by rw [Nat.add_assoc])
theorem fpDrop_sub (fs : Nat → List Nat) {n k : Nat} (hk : k < n) : List.Sublist (fpDrop fs n k) ((List.range n).flatMap fs) := by
  rw [fmr_three fs hk]
  exact List.Sublist.append (List.Sublist.refl _) (List.sublist_append_right _ _)
/-- The row whose block has been laid anew: the elements ahead of k, then those from k + 1 on. -/
theorem DRowF.dropped {e : Ty} {w w' : World} {base : Nat} {te : TypeId} {x : List e.D} {g cap k : Nat} {cur cur' : Array Value} {css : Nat → List Value} {fs : Nat → List Nat}
    (hbg : base ≤ g) (hnc : x.length ≤ cap) (hcm : cap ≤ maxLen) (htake : cur.toList.take (x.length * e.sz) = (List.range x.length).flatMap css)
    (h2 : ∀ i (h : i < x.length), (css i).length = e.sz ∧ e.ow w (css i) x[i] (fs i)) (h4 : g ∉ (List.range x.length).flatMap fs)
    (hk : k < x.length) (hg' : Blk w' g te cur') (hcs' : cur'.size = cap * e.sz)
    (htk : cur'.toList.take ((x.length - 1) * e.sz) = cur.toList.take (k * e.sz) ++ (cur.toList.take (x.length * e.sz)).drop ((k + 1) * e.sz))
    (hoth : ∀ b, b < w.heap.size → b ≠ g → w'.heap[b]? = w.heap[b]?) :
    DRowF e w' base te (.slice (some ⟨g, 0, none⟩) (x.length - 1) cap) (dropAt x k) (fpDrop fs x.length k) := by
  obtain ⟨m, hm⟩ : ∃ m, m = x.length - (k + 1) := ⟨_, rfl⟩
  have hl := dropAt_len hk
  have hlm : x.length - 1 = k + m := by omega
  have hcsl : ∀ i, i < x.length → (css i).length = e.sz := fun i hi => (h2 i hi).1
  have hA1 := fmr_three css hk
  rw [← hm] at hA1
  have hlk : ((List.range k).flatMap css).length = k * e.sz := fmr_len css e.sz k (fun i hi => hcsl i (by omega))
  have hmul : k * e.sz ≤ x.length * e.sz := Nat.mul_le_mul_right _ (by omega)
  have htk1 : cur.toList.take (k * e.sz) = (List.range k).flatMap css := by
    have : (cur.toList.take (x.length * e.sz)).take (k * e.sz) = cur.toList.take (k * e.sz) := by rw [List.take_take, Nat.min_eq_left hmul]
    rw [← this, htake, hA1, ← hlk, List.take_left]
  have htk2 : (cur.toList.take (x.length * e.sz)).drop ((k + 1) * e.sz) = (List.range m).flatMap (fun i => css (k + 1 + i)) := by
    have hlk1 : ((List.range k).flatMap css ++ css k).length = (k + 1) * e.sz := by rw [List.length_append, hlk, hcsl k hk, Nat.succ_mul]
    rw [htake, hA1, ← List.append_assoc, ← hlk1, List.drop_left]
  refine ⟨glue k css (fun i => css (k + 1 + i)), glue k fs (fun i => fs (k + 1 + i)), ⟨?_, .inr ⟨g, cap, cur', ?_, hbg, hg', ?_, hcm, hcs', ?_⟩⟩, ?_, ?_, ?_⟩
  · rw [hl, hlm, fmr_glue, List.length_append, hlk, fmr_len _ e.sz m (fun i hi => hcsl _ (by omega)), Nat.add_mul]
  · rw [hl]
  · rw [hl]; omega
  · rw [hl, htk, htk1, htk2, hlm, fmr_glue]
  · intro i hi
    rw [hl] at hi
    by_cases hik : i < k
    · rw [glue_lt hik, glue_lt hik]
      have hx : (dropAt x k)[i]'(by rw [hl]; exact hi) = x[i]'(by omega) := by
        unfold dropAt
        rw [List.getElem_append_left (by rw [List.length_take]; omega), List.getElem_take]
      rw [hx]
      refine ⟨hcsl i (by omega), Ty.ow_keep (fun b hb => ?_) (h2 i (by omega)).2⟩
      have hmem : b ∈ (List.range x.length).flatMap fs := List.mem_flatMap.2 ⟨i, List.mem_range.2 (by omega), hb⟩
      exact hoth b (Ty.ow_lt (h2 i (by omega)).2 b hb) (fun e => h4 (by rw [← e]; exact hmem))
    · obtain ⟨j, rfl⟩ : ∃ j, i = k + j := ⟨i - k, by omega⟩
      rw [glue_ge, glue_ge]
      have hx : (dropAt x k)[k + j]'(by rw [hl]; exact hi) = x[k + 1 + j]'(by omega) := by
        unfold dropAt
        rw [List.getElem_append_right (by rw [List.length_take]; omega), List.getElem_drop]
        congr 1
        rw [List.length_take]; omega
      rw [hx]
      refine ⟨hcsl _ (by omega), Ty.ow_keep (fun b hb => ?_) (h2 _ (by omega)).2⟩
      have hmem : b ∈ (List.range x.length).flatMap fs := List.mem_flatMap.2 ⟨k + 1 + j, List.mem_range.2 (by omega), hb⟩
      exact hoth b (Ty.ow_lt (h2 _ (by omega)).2 b hb) (fun e => h4 (by rw [← e]; exact hmem))
  · rw [hl, hlm, fmr_glue]; unfold fpDrop; rw [hm]
  · intro g' hg'' hmem
    have : g = g' := by simpa [Value.ownBlock] using hg''
    subst this
    exact h4 ((fpDrop_sub fs hk).subset hmem)
theorem Blk.setRow {w : World} {g : Nat} {t : TypeId} {cur : Array Value} (h : Blk w g t cur) (cs : Array Value) : Blk (w.setRow g cs) g t cs := setRow_heap w g cur cs t (0, 0) h
theorem setRow_grown (w : World) (g : Nat) (cs : Array Value) : w.grownBy (w.setRow g cs) (some g) :=
  ⟨rfl, rfl, rfl, by rw [setRow_size]; exact Nat.le_refl _, fun k _ hk => setRow_other w g k cs (fun e => hk (by rw [e]))⟩
/-- 'append(s[:k], ..)' in the row's own block, at a step. -/
theorem step_append_blk {P : Program} {w : World} {ops : Array Oper} {o : Oper} {a : Act} {K : Act → World → Prop} {Q : Exit → Act → World → Prop} {E : Prop} (hgd : o.guard = none) (s xo : Operand) (t : TypeId)
    (ho : o.op = .call { callee := .builtin .append, args := #[s, xo], argTypes := #[t, t] }) (e : TypeId) {z : Value} {sz by_ : Nat}
    (hinfo : (P.info? e).map (fun i => (i.zero, i.size, i.bytes)) = some (some z, sz, by_)) (ht : P.underlying t = some (.slice e))
    (g n cap : Nat) (cur : Array Value) (hb : Blk w g e cur) (hs : a.eval s = .slice (some ⟨g, 0, none⟩) n cap) (ad : Addr) (m c : Nat) (news : List Value) (hx : a.eval xo = .slice (some ad) m c)
    (hl : news.length = m * sz) (hnews : ∀ j u, news[j]? = some u → w.cell? (ad.add j) = some u) (h1 : ∀ u ∈ news, u.oneCell' = true) (hroom : n + m ≤ cap) (hfit : n * sz + news.length ≤ cur.size)
    (h : ∀ (W : World) (cur1 : Array Value), Blk W g e cur1 → cur1.size = cur.size → cur1.toList = cur.toList.take (n * sz) ++ news ++ cur.toList.drop (n * sz + news.length) → w.grownBy W (some g) → W.heap.size = w.heap.size → K (a.put o.dst (.slice (some ⟨g, 0, none⟩) (n + m) cap)) W) :
    if Region.wanted o (yielded ops a.tmps) = true then Oper.wp P o a w K Q else E := by
  have hw : Region.wanted o (yielded ops a.tmps) = true := by simp [Region.wanted, hgd]
  rw [if_pos hw]
  obtain ⟨i, hi, hzz⟩ := Option.map_eq_some_iff.1 hinfo
  simp only [Prod.mk.injEq] at hzz
  obtain ⟨hz, hsz, hby⟩ := hzz
  subst hsz
  have hr := run_append_room (P := P) w t o.type e i ht hi g n cap cur hb ad m c news hl hnews h1 hroom hfit
  unfold Oper.wp execOp
  simp only [ho, resolve, invoke, builtin, Sem.run_bind, Sem.run_pure, Result.andThen_ok, List.map_toArray, List.map_cons, List.map_nil, hs, hx, hr]
  exact h _ _ (Blk.setRow hb _) (by simp only [List.size_toArray, List.length_append, List.length_take, List.length_drop, Array.length_toList]; omega) rfl (setRow_grown w g _) (setRow_size w g _)
theorem mem_zeroCells {z : Array Value} {n : Nat} {u : Value} (h : u ∈ (Builtin.zeroCells z n).toList) : u ∈ z.toList := by
  unfold Builtin.zeroCells at h
  rw [Array.toList_map, List.mem_map] at h
  obtain ⟨i, hi, rfl⟩ := h
  have hi' : i < n * z.size := by simpa using hi
  have hp : 0 < z.size := by
    rcases Nat.eq_zero_or_pos z.size with h0 | h0
    · rw [h0, Nat.mul_zero] at hi'; omega
    · exact h0
  have hm : i % z.size < z.size := Nat.mod_lt _ hp
  rw [getElem!_pos z _ hm]
  exact Array.mem_toList_iff.2 (Array.getElem_mem hm)
/-- 'clear' on a part of a row whose block is known: some cells lie there. -/
theorem run_clear_blk {P : Program} {w : World} (t e ty : TypeId) {z : Value} (ht : P.underlying t = some (.slice e)) (hv : ∀ w, (zeroValue e).run P w = .ok z w) (hz1 : ∀ u ∈ z.cells.toList, u.oneCell' = true)
    (g o n c : Nat) (hn : 0 < n) (cur : Array Value) (hb : Blk w g e cur) (hfit : o + n * z.cells.size ≤ cur.size) :
    ∃ zs : List Value, zs.length = n * z.cells.size ∧ (Builtin.clear_ #[t] ty #[.slice (some ⟨g, o, none⟩) n c]).run P w = .ok (.tuple #[]) (w.setRow g (cur.toList.take o ++ zs ++ cur.toList.drop (o + zs.length)).toArray) := by
  have hlz : (Builtin.zeroCells z.cells n).toList.length = n * z.cells.size := by rw [Array.length_toList, size_zeroCells]
  refine ⟨(Builtin.zeroCells z.cells n).toList, hlz, ?_⟩
  have hst := run_storeCells_at P g o e (Builtin.zeroCells z.cells n).toList 0 cur w hb (by rw [hlz]; omega) (fun u hu => hz1 u (mem_zeroCells hu))
  simp only [Nat.add_zero] at hst
  obtain ⟨m, rfl⟩ : ∃ m, n = m + 1 := ⟨n - 1, by omega⟩
  simp [Builtin.clear_, run_underlying ht, hv, hst]
theorem run_clear_row {P : Program} {w : World} (t e ty : TypeId) {z : Value} (ht : P.underlying t = some (.slice e)) (hv : ∀ w, (zeroValue e).run P w = .ok z w) (hz1 : ∀ u ∈ z.cells.toList, u.oneCell' = true)
    (g off n c : Nat) (hn : 0 < n) (cur : Array Value) (hb : Blk w g e cur) (hfit : off + n * z.cells.size ≤ cur.size) :
    ∃ (W : World) (cur1 : Array Value), (Builtin.clear_ #[t] ty #[.slice (some ⟨g, off, none⟩) n c]).run P w = .ok (.tuple #[]) W ∧ Blk W g e cur1 ∧ cur1.size = cur.size ∧ cur1.toList.take off = cur.toList.take off ∧ w.grownBy W (some g) ∧ W.heap.size = w.heap.size := by
  obtain ⟨zs, hzl, hr⟩ := run_clear_blk (P := P) t e ty ht hv hz1 g off n c hn cur hb hfit
  exact ⟨_, _, hr, Blk.setRow hb _, by simp only [List.size_toArray, List.length_append, List.length_take, List.length_drop, Array.length_toList]; omega,
    by rw [List.append_assoc, List.take_append_of_le_length (by rw [List.length_take, Array.length_toList]; omega), List.take_take, Nat.min_self], setRow_grown w g _, setRow_size w g _⟩
theorem ob_lit {g n c g' : Nat} (h : (Value.slice (some ⟨g, 0, none⟩) n c).ownBlock = some g') : g = g' := by simpa [Value.ownBlock] using h
theorem SrcF.keepB {e : Ty} {w w' : World} {u : Value} {y : List e.D} {fp : List Nat} (h : SrcF e w u y fp) (hk : ∀ b, b < w.heap.size → w'.heap[b]? = w.heap[b]?) : SrcF e w' u y fp := by
  obtain ⟨A, c, fs, h1, h2, h3⟩ := h
  refine ⟨A, c, fs, h1, h2, fun h0 => ?_⟩
  obtain ⟨b, o, hA, hel⟩ := h3 h0
  refine ⟨b, o, hA, fun i hi => ?_⟩
  obtain ⟨ds, g1, g2, g3⟩ := hel i hi
  refine ⟨ds, g1, fun j hj => ?_, Ty.ow_keep (fun b' hb' => hk b' (Ty.ow_lt g3 b' hb')) g3⟩
  have hv : w.cell? ⟨b, o + i * e.sz + j, none⟩ = some (ds[j]'(by omega)) := by rw [g2 j hj]; exact List.getElem?_eq_getElem (by omega)
  have hlt : b < w.heap.size := World.block_lt_of_cell? w _ hv
  rw [cell_of_heap (hk b hlt)]
  exact g2 j hj
/-- The cells of an element of a row. -/
theorem row_cell {e : Ty} {w : World} {x : List e.D} {g : Nat} {te : TypeId} {cur : Array Value} {css : Nat → List Value} (hB : Blk w g te cur) (htake : cur.toList.take (x.length * e.sz) = (List.range x.length).flatMap css) (hcs : ∀ i, i < x.length → (css i).length = e.sz) {i j : Nat} (hi : i < x.length) (hj : j < e.sz) :
    w.cell? ⟨g, i * e.sz + j, none⟩ = (css i)[j]? := by
  have hlt : i * e.sz + j < x.length * e.sz := by
    have h5 : (i + 1) * e.sz ≤ x.length * e.sz := Nat.mul_le_mul_right _ hi
    rw [Nat.succ_mul] at h5; omega
  rw [hB.cell, ← Array.getElem?_toList, ← fmr_get css e.sz x.length hcs i j hi hj, ← htake, List.getElem?_take_of_lt hlt]
theorem SrcF.head {e : Ty} {w : World} {x : List e.D} {g cap k : Nat} {te : TypeId} {cur : Array Value} {css : Nat → List Value} {fs : Nat → List Nat} (hB : Blk w g te cur) (htake : cur.toList.take (x.length * e.sz) = (List.range x.length).flatMap css)
    (h2 : ∀ i (h : i < x.length), (css i).length = e.sz ∧ e.ow w (css i) x[i] (fs i)) (hk : k ≤ x.length) : SrcF e w (.slice (some ⟨g, 0, none⟩) k cap) (x.take k) ((List.range k).flatMap fs) := by
  have hl : (x.take k).length = k := by rw [List.length_take]; omega
  refine ⟨_, cap, fs, by rw [hl], by rw [hl], fun h0 => ⟨g, 0, rfl, fun i hi => ?_⟩⟩
  rw [hl] at hi
  refine ⟨css i, (h2 i (by omega)).1, fun j hj => ?_, ?_⟩
  · rw [Nat.zero_add]; exact row_cell hB htake (fun i hi => (h2 i hi).1) (by omega) hj
  · rw [List.getElem_take]; exact (h2 i (by omega)).2
theorem SrcF.tail {e : Ty} {w : World} {x : List e.D} {g c k : Nat} {te : TypeId} {cur : Array Value} {css : Nat → List Value} {fs : Nat → List Nat} {A : Addr} (hB : Blk w g te cur) (htake : cur.toList.take (x.length * e.sz) = (List.range x.length).flatMap css)
    (h2 : ∀ i (h : i < x.length), (css i).length = e.sz ∧ e.ow w (css i) x[i] (fs i)) (hA : k < x.length → A = ⟨g, k * e.sz, none⟩) : SrcF e w (.slice (some A) (x.length - k) c) (x.drop k) ((List.range (x.length - k)).flatMap (fun i => fs (k + i))) := by
  have hl : (x.drop k).length = x.length - k := List.length_drop
  refine ⟨_, c, fun i => fs (k + i), by rw [hl], by rw [hl], fun h0 => ⟨g, k * e.sz, by rw [hA (by omega)], fun i hi => ?_⟩⟩
  rw [hl] at hi
  refine ⟨css (k + i), (h2 _ (by omega)).1, fun j hj => ?_, ?_⟩
  · rw [← Nat.add_mul]; exact row_cell hB htake (fun i hi => (h2 i hi).1) (by omega) hj
  · rw [List.getElem_drop]; exact (h2 _ (by omega)).2
theorem step_append_drowF {P : Program} {w : World} {ops : Array Oper} {o : Oper} {a : Act} {K : Act → World → Prop} {Q : Exit → Act → World → Prop} {E : Prop} (hgd : o.guard = none) (s xo : Operand) (t : TypeId)
    (ho : o.op = .call { callee := .builtin .append, args := #[s, xo], argTypes := #[t, t] }) {e : Ty} (base : Nat) (te : TypeId) {z : Value} {by_ : Nat}
    (hinfo : (P.info? te).map (fun i => (i.zero, i.size, i.bytes)) = some (some z, e.sz, by_)) (hz1 : z.cells.size = e.sz) (ht : P.underlying t = some (.slice te))
    (v u : Value) (x y : List e.D) (fp fq : List Nat) (hs : a.eval s = v) (hx : a.eval xo = u) (hown : DRowF e w base te v x fp) (hy : SrcF e w u y fq) (hvy : ∀ g, v.ownBlock = some g → g ∉ fq) (hbytes : (x.length + y.length) * by_ ≤ 140737488355328) (hlen : x.length + y.length ≤ maxLen) (hbase : base ≤ w.heap.size)
    (h : ∀ v' w', DRowF e w' base te v' (x ++ y) (fp ++ fq) → w.grownBy w' v.ownBlock → (v'.ownBlock = v.ownBlock ∨ v'.ownBlock = some w.heap.size) → K (a.put o.dst v') w') :
    if Region.wanted o (yielded ops a.tmps) = true then Oper.wp P o a w K Q else E := by
  have hw : Region.wanted o (yielded ops a.tmps) = true := by simp [Region.wanted, hgd]
  rw [if_pos hw]
  obtain ⟨v', w', hr, h2, h3, h4⟩ := run_append_drowF (P := P) base t o.type te hinfo hz1 ht v u x y fp fq hown hy hvy hbytes hlen hbase
  unfold Oper.wp execOp
  simp only [ho, resolve, invoke, builtin, Sem.run_bind, Sem.run_pure, Result.andThen_ok, List.map_toArray, List.map_cons, List.map_nil, hs, hx, hr]
  exact h v' w' h2 h3 h4
/-- A row stays as long as the blocks from its base on stay. -/
theorem DRow.keep {e : Ty} {w w' : World} {base : Nat} {te : TypeId} {v : Value} {x : List e.D} (h : DRow e w base te v x) (hsz : w.heap.size ≤ w'.heap.size) (hk : ∀ b, base ≤ b → b < w.heap.size → w'.heap[b]? = w.heap[b]?) : DRow e w' base te v x := by
  have hbl := h.block
  obtain ⟨css, fs, h1, h2, h3, h4⟩ := h
  refine ⟨css, fs, ⟨h1.1, ?_⟩, fun i hi => ⟨(h2 i hi).1, Ty.ow_keep (fun b hb' => ?_) (h2 i hi).2⟩, h3.mono (Nat.le_refl _) hsz, h4⟩
  · rcases h1.2 with hn | ⟨g, cap, cur, rfl, hbg, hgg, rest⟩
    · exact .inl hn
    · exact .inr ⟨g, cap, cur, rfl, hbg, (hk g hbg (hbl g rfl).2).trans hgg, rest⟩
  · have := h3.2 b (List.mem_flatMap.2 ⟨i, List.mem_range.2 hi, hb'⟩)
    exact hk b this.1 this.2
theorem grow_blk {w0 w w' : World} {row : Option Nat} {g : Nat} {t : TypeId} {cs : Array Value} (hb : Below w0.heap.size w0 w) (hg : w.grownBy w' row) (h : Blk w0 g t cs) (hn : some g ≠ row) : Blk w' g t cs := (h.below hb h.lt).grown hg hn
theorem grow_bel {w0 w w' : World} {row : Option Nat} (h : Below w0.heap.size w0 w) (hg : w.grownBy w' row) (hrow : ∀ g, row = some g → w0.heap.size ≤ g) : Below w0.heap.size w0 w' := bel_grown h h.size hg hrow
theorem grow_size {w0 w w' : World} {row : Option Nat} (hb : Below w0.heap.size w0 w) (hg : w.grownBy w' row) : w0.heap.size ≤ w'.heap.size := Nat.le_trans hb.size hg.size
theorem DRow.far {e : Ty} {w : World} {base : Nat} {te : TypeId} {v : Value} {x : List e.D} (h : DRow e w base te v x) {p : Addr} (hp : p.block < base) (u : Value) : DRow e (w.setCell p u) base te v x :=
  h.keep (by rw [World.size_setCell]; exact Nat.le_refl _) (fun b hb _ => Below.heap_setCell w p u b (by omega))
end Go.Proofs.Ytpjnidfdkggpfaa
