/- Askers are struck out. Printed by gen40.py. -/
import Derived.Test.YtpjnidfdkggpfaaIxf
import Derived.Test.YtpjnidfdkggpfaaRwd
import Derived.Laws.IdiomCopy
namespace Go.Proofs.Ytpjnidfdkggpfaa
open Go.RowKit
set_option linter.unusedVariables false
set_option linter.unusedSimpArgs false

/-- The world has grown, and of the old blocks those of fp alone have been written. -/
structure GrB (w w' : World) (fp : List Nat) : Prop where
  os : w'.os = w.os
  tape : w'.tape = w.tape
  output : w'.output = w.output
  size : w.heap.size ≤ w'.heap.size
  block : ∀ g, g < w.heap.size → g ∉ fp → w'.heap[g]? = w.heap[g]?
theorem GrB.of {w w' : World} (h : Below w.heap.size w w') (fp : List Nat) : GrB w w' fp := ⟨h.os, h.tape, h.output, h.size, fun g hg _ => h.block g hg⟩
theorem GrB.then_ {w w1 w2 : World} {fp : List Nat} (h : GrB w w1 fp) (k : Below w1.heap.size w1 w2) : GrB w w2 fp :=
  ⟨k.os.trans h.os, k.tape.trans h.tape, k.output.trans h.output, Nat.le_trans h.size k.size, fun g hg hn => (k.block g (Nat.lt_of_lt_of_le hg h.size)).trans (h.block g hg hn)⟩
theorem GrB.set {w w1 : World} {fp : List Nat} (h : GrB w w1 fp) {p : Addr} (hp : p.block ∈ fp) (u : Value) : GrB w (w1.setCell p u) fp :=
  ⟨h.os, h.tape, h.output, by rw [World.size_setCell]; exact h.size, fun g hg hn => (Below.heap_setCell w1 p u g (fun e => hn (by rw [e]; exact hp))).trans (h.block g hg hn)⟩
theorem GrB.sets {w : World} {fp : List Nat} {b : Nat} (hb : b ∈ fp) : ∀ (vs : List Value) (off : Nat) (w1 : World), GrB w w1 fp → GrB w (w1.setCells b off vs) fp
  | [], _, _, h => h
  | v :: r, off, w1, h => GrB.sets hb r (off + 1) _ (h.set (p := ⟨b, off, none⟩) hb v)
theorem GrB.below {w0 w w' : World} {B : Nat} {fp : List Nat} (hb : Below B w0 w) (hB : B ≤ w.heap.size) (h : GrB w w' fp) (hf : ∀ g ∈ fp, B ≤ g) : Below B w0 w' :=
  ⟨h.os.trans hb.os, h.tape.trans hb.tape, h.output.trans hb.output, Nat.le_trans hb.size h.size, fun g hg => (h.block g (by omega) (fun hm => by have := hf g hm; omega)).trans (hb.block g hg)⟩
theorem GrB.blk {w w' : World} {fp : List Nat} {g : Nat} {t : TypeId} {cs : Array Value} (h : GrB w w' fp) (hb : Blk w g t cs) (hn : g ∉ fp) : Blk w' g t cs := (h.block g hb.lt hn).trans hb
def reqAt (w : World) (b o q : Nat) (d : Ty.D tRequester) : Prop := w.cell? ⟨b, o + q * 3, none⟩ = some (.int .i64 d.1) ∧ w.cell? ⟨b, o + q * 3 + 1, none⟩ = some (.int .i64 d.2.1) ∧ w.cell? ⟨b, o + q * 3 + 2, none⟩ = some (.int .i64 d.2.2)
def reqFree (w : World) (b o q : Nat) : Prop := ∀ r, r < 3 → (∃ u, w.cell? ⟨b, o + q * 3 + r, none⟩ = some u) ∧ w.frozen? ⟨b, o + q * 3 + r, none⟩ = false
abbrev set3 (w : World) (b o a : Nat) (d : Ty.D tRequester) : World := ((w.setCell ⟨b, o + a * 3, none⟩ (.int .i64 d.1)).setCell ⟨b, o + a * 3 + 1, none⟩ (.int .i64 d.2.1)).setCell ⟨b, o + a * 3 + 2, none⟩ (.int .i64 d.2.2)
theorem reqAt.below {w w' : World} {b o q : Nat} {d : Ty.D tRequester} (h : reqAt w b o q d) (hb : Below w.heap.size w w') : reqAt w' b o q d := by
  have hl : b < w.heap.size := World.block_lt_of_cell? w _ h.1
  exact ⟨(hb.cell (p := ⟨b, _, none⟩) hl).trans h.1, (hb.cell (p := ⟨b, _, none⟩) hl).trans h.2.1, (hb.cell (p := ⟨b, _, none⟩) hl).trans h.2.2⟩
theorem reqFree.below {w w' : World} {b o q : Nat} (h : reqFree w b o q) (hb : Below w.heap.size w w') : reqFree w' b o q := by
  obtain ⟨u, hu⟩ := (h 0 (by decide)).1
  have hl : b < w.heap.size := World.block_lt_of_cell? w _ hu
  intro r hr
  obtain ⟨⟨v, hv⟩, hf⟩ := h r hr
  exact ⟨⟨v, (hb.cell (p := ⟨b, _, none⟩) hl).trans hv⟩, (hb.frozen (p := ⟨b, _, none⟩) hl).trans hf⟩
theorem set3_other {w : World} {b o a : Nat} {d : Ty.D tRequester} {k : Nat} (h : k < o + a * 3 ∨ o + a * 3 + 3 ≤ k) : (set3 w b o a d).cell? ⟨b, k, none⟩ = w.cell? ⟨b, k, none⟩ := by
  unfold set3
  rw [World.cell?_setCell_other _ _ _ _ (by intro e; simp only [Addr.mk.injEq] at e; omega), World.cell?_setCell_other _ _ _ _ (by intro e; simp only [Addr.mk.injEq] at e; omega), World.cell?_setCell_other _ _ _ _ (by intro e; simp only [Addr.mk.injEq] at e; omega)]
theorem reqAt.put3 {w : World} {b o q a : Nat} {d d' : Ty.D tRequester} (h : reqAt w b o q d) (hne : q ≠ a) : reqAt (set3 w b o a d') b o q d :=
  ⟨(set3_other (by omega)).trans h.1, (set3_other (by omega)).trans h.2.1, (set3_other (by omega)).trans h.2.2⟩
theorem set3_frozen {w : World} {b o a : Nat} {d : Ty.D tRequester} (p : Addr) : (set3 w b o a d).frozen? p = w.frozen? p := by
  unfold set3; rw [World.frozen?_setCell, World.frozen?_setCell, World.frozen?_setCell]
theorem reqAt.here {w : World} {b o a : Nat} {d : Ty.D tRequester} (h : reqFree w b o a) : reqAt (set3 w b o a d) b o a d := by
  obtain ⟨u0, h0⟩ := (h 0 (by decide)).1
  obtain ⟨u1, h1⟩ := (h 1 (by decide)).1
  obtain ⟨u2, h2⟩ := (h 2 (by decide)).1
  rw [Nat.add_zero] at h0
  unfold set3
  refine ⟨?_, ?_, ?_⟩
  · rw [World.cell?_setCell_other _ _ _ _ (by intro e; simp only [Addr.mk.injEq] at e; omega), World.cell?_setCell_other _ _ _ _ (by intro e; simp only [Addr.mk.injEq] at e; omega), World.cell?_setCell_same _ _ _ h0]
  · rw [World.cell?_setCell_other _ _ _ _ (by intro e; simp only [Addr.mk.injEq] at e; omega)]
    exact World.cell?_setCell_same _ _ _ ((World.cell?_setCell_other _ _ _ _ (by intro e; simp only [Addr.mk.injEq] at e; omega)).trans h1)
  · exact World.cell?_setCell_same _ _ _ ((World.cell?_setCell_other _ _ _ _ (by intro e; simp only [Addr.mk.injEq] at e; omega)).trans ((World.cell?_setCell_other _ _ _ _ (by intro e; simp only [Addr.mk.injEq] at e; omega)).trans h2))
theorem reqFree.put3 {w : World} {b o q a : Nat} {d : Ty.D tRequester} (h : reqFree w b o q) (ha : reqFree w b o a) : reqFree (set3 w b o a d) b o q := by
  intro r hr
  refine ⟨?_, by rw [set3_frozen]; exact (h r hr).2⟩
  by_cases hq : q = a
  · subst hq
    have hh := reqAt.here (d := d) ha
    rcases r with _ | _ | _ | r
    · exact ⟨_, hh.1⟩
    · exact ⟨_, hh.2.1⟩
    · exact ⟨_, hh.2.2⟩
    · omega
  · obtain ⟨u, hu⟩ := (h r hr).1
    exact ⟨u, (set3_other (by omega)).trans hu⟩
theorem reqAt.sets {w : World} {b o q off : Nat} {d : Ty.D tRequester} (h : reqAt w b o q d) (vs : List Value) (hq : o + q * 3 + 3 ≤ off) : reqAt (w.setCells b off vs) b o q d :=
  ⟨(World.cell?_setCells_out b vs off w _ (fun _ _ => Or.inl (by dsimp only; omega))).trans h.1, (World.cell?_setCells_out b vs off w _ (fun _ _ => Or.inl (by dsimp only; omega))).trans h.2.1, (World.cell?_setCells_out b vs off w _ (fun _ _ => Or.inl (by dsimp only; omega))).trans h.2.2⟩
theorem run_clear_cells {P : Program} {w : World} (t e ty : TypeId) {z : Value} (ht : P.underlying t = some (.slice e)) (hv : ∀ w, (zeroValue e).run P w = .ok z w) (hz1 : ∀ u ∈ z.cells.toList, u.oneCell' = true) (b off n c : Nat) (hn : 0 < n)
    (hc : ∀ j, j < n * z.cells.size → (w.cell? ⟨b, off + j, none⟩).isSome = true ∧ w.frozen? ⟨b, off + j, none⟩ = false) :
    ∃ zs : List Value, (Builtin.clear_ #[t] ty #[.slice (some ⟨b, off, none⟩) n c]).run P w = .ok (.tuple #[]) (w.setCells b off zs) := by
  have hlz : (Builtin.zeroCells z.cells n).toList.length = n * z.cells.size := by rw [Array.length_toList, size_zeroCells]
  refine ⟨(Builtin.zeroCells z.cells n).toList, ?_⟩
  have hst := run_storeCells_cells (P := P) b off (Builtin.zeroCells z.cells n).toList 0 w (fun j hj => by rw [Nat.add_zero]; exact (hc j (by rw [← hlz]; exact hj)).1) (fun j hj => by rw [Nat.add_zero]; exact (hc j (by rw [← hlz]; exact hj)).2) (fun u hu => hz1 u (mem_zeroCells hu))
  simp only [Nat.add_zero] at hst
  obtain ⟨m, rfl⟩ : ∃ m, n = m + 1 := ⟨n - 1, by omega⟩
  simp [Builtin.clear_, run_underlying ht, hv, hst]
def keepR (p : Ty.D tRequester → Bool) (l : List (Ty.D tRequester)) : List (Ty.D tRequester) := l.filter (fun d => !p d)
theorem keepR_yes {p : Ty.D tRequester → Bool} {l : List (Ty.D tRequester)} {k : Nat} (h : k < l.length) (hp : p l[k] = false) : keepR p (l.take (k + 1)) = keepR p (l.take k) ++ [l[k]] := by
  unfold keepR
  rw [List.take_succ_eq_append_getElem h, List.filter_append]
  simp [List.filter_cons, hp]
theorem keepR_no {p : Ty.D tRequester → Bool} {l : List (Ty.D tRequester)} {k : Nat} (h : k < l.length) (hp : p l[k] = true) : keepR p (l.take (k + 1)) = keepR p (l.take k) := by
  unfold keepR
  rw [List.take_succ_eq_append_getElem h, List.filter_append]
  simp [List.filter_cons, hp]
theorem keepR_none {p : Ty.D tRequester → Bool} {l : List (Ty.D tRequester)} (h : l.any p = false) : keepR p l = l := by
  unfold keepR
  rw [List.any_eq_false] at h
  exact List.filter_eq_self.2 (fun a ha => by simpa using h a ha)
theorem keepR_len (p : Ty.D tRequester → Bool) (l : List (Ty.D tRequester)) : (keepR p l).length ≤ l.length := List.length_filter_le _ _
theorem ixf_casesR {α : Type} (p : α → Bool) (l : List α) : (ixf p l = -1 ∧ l.any p = false) ∨ (∃ k : Nat, ∃ h : k < l.length, ixf p l = (k : Int) ∧ (l.take k).any p = false ∧ p l[k] = true) := by
  unfold ixf
  cases hq : l.findIdx? p with
  | none =>
    left
    refine ⟨rfl, ?_⟩
    rw [List.findIdx?_eq_none_iff] at hq
    exact List.any_eq_false.2 (fun a ha => by simp [hq a ha])
  | some k =>
    right
    rw [List.findIdx?_eq_some_iff_getElem] at hq
    obtain ⟨h, hp, hj⟩ := hq
    refine ⟨k, h, rfl, List.any_eq_false.2 (fun a ha => ?_), hp⟩
    obtain ⟨j, hjl, rfl⟩ := List.getElem_of_mem ha
    rw [List.length_take] at hjl
    rw [List.getElem_take]
    simpa using hj j (by omega)
theorem fpR_nil {w : World} {cs : List Value} {d : Ty.D tRequester} {f : List Nat} (h : tRequester.ow w cs d f) : f = [] := by
  obtain ⟨_, _, f1, f2, _, hf, ⟨_, h1⟩, ⟨_, _, f3, f4, _, hf2, ⟨_, h3⟩, ⟨_, h4⟩⟩⟩ := h
  rw [hf, h1, hf2, h3, h4]; rfl
/-- The askers of a slice that is owned: one block. -/
theorem ow_reqs {w : World} {A : Option Addr} {n c : Nat} {x : List (Ty.D tRequester)} {fp : List Nat} (h : (Ty.sl tRequester).ow w [.slice A n c] x fp) (h0 : 0 < x.length) :
    ∃ b o, A = some ⟨b, o, none⟩ ∧ fp = [b] ∧ n = x.length ∧ x.length ≤ c ∧ c ≤ maxLen ∧ (∀ q (h : q < x.length), reqAt w b o q x[q]) ∧ (∀ q, q < x.length → reqFree w b o q) ∧ (∀ q (h : q < x.length), tRequester.rd w [.int .i64 x[q].1, .int .i64 x[q].2.1, .int .i64 x[q].2.2] x[q]) := by
  obtain ⟨A', c', h1, h2, h3, h4, h5⟩ := h
  injection h1 with h1 _
  injection h1 with h1 hn h1c
  subst h1c
  rcases h5 with h5 | ⟨_, b, o, fs, hA, hfp, hc⟩
  · exact absurd h5.1 (by show ¬ x.length = 0; omega)
  · refine ⟨b, o, h1.trans hA, ?_, hn, h2, h3.1, fun q hq => ?_, fun q hq => ?_, fun q hq => ?_⟩
    · have : (List.range x.length).flatMap fs = [] := List.flatMap_eq_nil_iff.2 (fun i hi => by obtain ⟨ds, _, _, g⟩ := hc i (List.mem_range.1 hi); exact fpR_nil g)
      have hfp' : fp = b :: (List.range x.length).flatMap fs := hfp
      rw [hfp', this]
    · obtain ⟨ds, g1, g2, g3⟩ := hc q hq
      have e := ow_Requester g3
      subst e
      exact ⟨(g2 0 (by decide)).1, (g2 1 (by decide)).1, (g2 2 (by decide)).1⟩
    · obtain ⟨ds, g1, g2, g3⟩ := hc q hq
      have g1' : ds.length = 3 := g1
      intro r hr
      obtain ⟨q1, q2⟩ := g2 r hr
      exact ⟨⟨ds[r]'(by omega), by have := q1; rw [List.getElem?_eq_getElem (by omega)] at this; exact this⟩, q2⟩
    · obtain ⟨ds, g1, g2, g3⟩ := hc q hq
      have e := ow_Requester g3
      subst e
      exact Ty.ow_rd g3
theorem ow_reqs_mk {w : World} {b o c : Nat} {x : List (Ty.D tRequester)} (hc : x.length ≤ c) (hm : c ≤ maxLen) (h1 : ∀ q (h : q < x.length), reqAt w b o q x[q]) (h2 : ∀ q, q < x.length → ∀ r, r < 3 → w.frozen? ⟨b, o + q * 3 + r, none⟩ = false) (h3 : ∀ q (h : q < x.length), tRequester.rd w [.int .i64 x[q].1, .int .i64 x[q].2.1, .int .i64 x[q].2.2] x[q]) :
    (Ty.sl tRequester).ow w [.slice (some ⟨b, o, none⟩) x.length c] x (if x.length = 0 then [] else [b]) := by
  have hmm : c ≤ 9223372036854775807 := by unfold maxLen at hm; exact hm
  refine ⟨_, c, rfl, hc, ⟨hm, fun h => by cases h⟩, by show x.length ≤ _; omega, ?_⟩
  by_cases h0 : x.length = 0
  · rw [if_pos h0]; exact .inl ⟨h0, rfl⟩
  · rw [if_neg h0]
    refine .inr ⟨by show 0 < x.length; omega, b, o, fun _ => [], rfl, by rw [List.flatMap_eq_nil_iff.2 (fun _ _ => rfl)], fun q hq => ⟨_, rfl, fun j hj => ⟨?_, h2 q hq j hj⟩, Ty.rd_ow_flat rfl (h3 q hq)⟩⟩
    obtain ⟨g0, g1, g2⟩ := h1 q hq
    have hj' : j < 3 := hj
    rcases j with _ | _ | _ | j
    · exact g0
    · exact g1
    · exact g2
    · omega
set_option maxRecDepth 100000 in
set_option maxHeartbeats 2000000 in
theorem C_DeleteFunc_Req (w : World) (A : Option Addr) (c : Nat) (x : List (Ty.D tRequester)) (fp : List Nat) (p : Ty.D tRequester → Bool) (g : Nat) (lb : Array Value) (eg : ∀ args w, (callFunc g args).run Try.prog w = .ok (.enter g args) w)
    (h : (Ty.sl tRequester).ow w [.slice A x.length c] x fp) (hx : x.length ≤ 1099511627776) (hp : ∀ (W : World) (ds : List Value) (d : Ty.D tRequester), d ∈ x → Ty.rd W tRequester ds d → GrB w W fp → Calls Try.prog g (#[.agg ds.toArray] ++ lb) W (RetB W (p d))) :
    Calls Try.prog 27 #[.slice A x.length c, .func (.func g) #[] lb] w (fun e w' => ∃ A' c' fp', e = .returned (.slice A' (keepR p x).length c') ∧ (Ty.sl tRequester).ow w' [.slice A' (keepR p x).length c'] (keepR p x) fp' ∧ List.Sublist fp' fp ∧ GrB w w' fp) := by
  have HP := Lib.hid hp
  have hif := C_IndexFunc_Requester w (.slice A x.length c) x p g lb eg (Ty.ow_rd h) (fun W ds d hd hr hW => hp W ds d hd hr (GrB.of hW fp))
  clear hp
  rcases ixf_casesR p x with ⟨hi, hn⟩ | ⟨k, hlt, hi, ht, hq⟩
  · rw [hi] at hif
    have HK := Lib.hid (keepR_none hn)
    have HW := Lib.hid h
    clear hi hn h
    go_enter Try.func27, Try.ntmps27
    go_wp2_with fail
    refine hif.mono ?_
    rintro e w1 ⟨rfl, hb1⟩
    clear hif
    go_wp2
    go_ret
    rw [HK.out]
    exact ⟨A, c, fp, rfl, Ty.ow_bel hb1 HW.out, List.Sublist.refl _, GrB.of hb1 fp⟩
  rw [hi] at hif
  obtain ⟨b, o, rfl, rfl, _, hnc, hcm, hAt, hFr, hRd⟩ := ow_reqs h (by omega)
  have hk0 : keepR p (x.take (k + 1)) = x.take k := by rw [keepR_no hlt hq]; exact keepR_none ht
  have HI : Hid (∀ q (h : q < x.length), tRequester.rd w [.int .i64 x[q].1, .int .i64 x[q].2.1, .int .i64 x[q].2.2] x[q]) := hRd
  have hkm : ((k : Int) == -1) = false := by rw [beq_eq_false_iff_ne]; omega
  have hwk : IntKind.i64.wrap ((k : Int) + 1) = (k : Int) + 1 := IntWalk.i64_in _ (by omega)
  clear hi ht hq h hRd
  go_enter Try.func27, Try.ntmps27
  go_wp2_with fail
  refine hif.mono ?_
  rintro e w1 ⟨rfl, hb1⟩
  clear hif
  have HAT := Lib.hid (fun q (h : q < x.length) => (hAt q h).below hb1)
  have HFR := Lib.hid (fun q (h : q < x.length) => (hFr q h).below hb1)
  have HK0 := Lib.hid hk0
  clear hAt hFr hk0
  go_wp2
  go_loopw [5, 6] (fun i j wr => ∃ (jj : Nat), k < jj ∧ jj ≤ x.length ∧ i = .int .i64 ((keepR p (x.take jj)).length : Nat) ∧ j = .int .i64 jj ∧ (keepR p (x.take jj)).length < jj ∧
      (∀ q (h : q < (keepR p (x.take jj)).length), reqAt wr b o q (keepR p (x.take jj))[q]) ∧ (∀ q (h : q < x.length), jj ≤ q → reqAt wr b o q x[q]) ∧ (∀ q, q < x.length → reqFree wr b o q) ∧ GrB w wr [b]) (fun _ j _ => x.length - (intOf j).toNat)
  case atStart =>
    refine ⟨k + 1, by omega, by omega, ?_, by go_num, ?_, ?_, fun q h _ => HAT.out q h, HFR.out, GrB.of hb1 _⟩
    · rw [HK0.out, List.length_take, Nat.min_eq_left (by omega)]
    · rw [HK0.out, List.length_take]; omega
    · intro q hq
      have hq' : q < k := by rw [HK0.out, List.length_take] at hq; omega
      have e : (keepR p (x.take (k + 1)))[q] = x[q]'(by omega) := by simp only [HK0.out, List.getElem_take]
      rw [e]; exact HAT.out q (by omega)
  case round =>
    obtain ⟨jj, hkj, hjl, rfl, rfl, haj, hA1, hX1, hF1, hG⟩ := hrel
    obtain ⟨a, ha⟩ : ∃ a, a = (keepR p (x.take jj)).length := ⟨_, rfl⟩
    rw [← ha] at haj ⊢
    have HA := Lib.hid ha
    have HA1 := Lib.hid hA1
    have HX1 := Lib.hid hX1
    have HF1 := Lib.hid hF1
    have HG := Lib.hid hG
    clear ha hA1 hX1 hF1 hG
    have i0 : (0 : Int) ≤ (a : Int) := by omega
    have i1 : (a : Int) < (x.length : Int) := by omega
    have i2 : (a : Int) ≤ (c : Int) := by omega
    have hwa : IntKind.i64.wrap ((a : Int) + 1) = (a : Int) + 1 := IntWalk.i64_in _ (by omega)
    by_cases hlt2 : jj < x.length
    · obtain ⟨e0, e1, e2⟩ := HX1.out jj hlt2 (Nat.le_refl _)
      have j0 : (0 : Int) ≤ (jj : Int) := by omega
      have j1 : (jj : Int) < (x.length : Int) := by omega
      have hbl : b < wr.heap.size := World.block_lt_of_cell? wr _ e0
      have hrd' : tRequester.rd wr [.int .i64 x[jj].1, .int .i64 x[jj].2.1, .int .i64 x[jj].2.2] x[jj] := HI.out jj hlt2
      have hve : Below wr.heap.size wr (wr.alloc (.cells #[.int .i64 x[jj].1, .int .i64 x[jj].2.1, .int .i64 x[jj].2.2] 58)) := (by repeat' (first | (with_reducible exact Below.refl _ _) | (with_reducible assumption) | (with_reducible refine bel_set ?_ (by (try dsimp only); omega) _) | (with_reducible refine bel_alloc ?_ _) | (with_reducible refine bel_drewN ?_ _) | (with_reducible refine bel_drew ?_)))
      have hcall := HP.out (wr.alloc (.cells #[.int .i64 x[jj].1, .int .i64 x[jj].2.1, .int .i64 x[jj].2.2] 58)) _ x[jj] (List.getElem_mem hlt2) (Ty.rd_below hve hrd') (HG.out.then_ hve)
      cases hq : p x[jj]
      · have HY := Lib.hid (keepR_yes hlt2 hq)
        rw [hq] at hcall
        clear hq
        have y0 : (wr.alloc (.cells #[.int .i64 x[jj].1, .int .i64 x[jj].2.1, .int .i64 x[jj].2.2] 58)).cell? ⟨wr.heap.size, 0, none⟩ = some (.int .i64 x[jj].1) := cell_new wr _ _ 0 rfl
        have y1 : (wr.alloc (.cells #[.int .i64 x[jj].1, .int .i64 x[jj].2.1, .int .i64 x[jj].2.2] 58)).cell? ⟨wr.heap.size, 1, none⟩ = some (.int .i64 x[jj].2.1) := cell_new wr _ _ 1 rfl
        have y2 : (wr.alloc (.cells #[.int .i64 x[jj].1, .int .i64 x[jj].2.1, .int .i64 x[jj].2.2] 58)).cell? ⟨wr.heap.size, 2, none⟩ = some (.int .i64 x[jj].2.2) := cell_new wr _ _ 2 rfl
        have hze : wr.heap.size < (wr.alloc (.cells #[.int .i64 x[jj].1, .int .i64 x[jj].2.1, .int .i64 x[jj].2.2] 58)).heap.size := by rw [World.size_alloc]; omega
        go_wp2_with fail
        generalize (wr.alloc (.cells #[.int .i64 x[jj].1, .int .i64 x[jj].2.1, .int .i64 x[jj].2.2] 58)) = WE at hve hcall y0 y1 y2 hze ⊢
        go_at_fn g
        refine hcall.mono ?_
        rintro e w2 ⟨rfl, hb2⟩
        clear hcall e0 e1 e2
        have z0 : w2.cell? ⟨wr.heap.size, 0, none⟩ = some (.int .i64 x[jj].1) := (hb2.cell (p := ⟨wr.heap.size, 0, none⟩) hze).trans y0
        have z1 : w2.cell? ⟨wr.heap.size, 1, none⟩ = some (.int .i64 x[jj].2.1) := (hb2.cell (p := ⟨wr.heap.size, 1, none⟩) hze).trans y1
        have z2 : w2.cell? ⟨wr.heap.size, 2, none⟩ = some (.int .i64 x[jj].2.2) := (hb2.cell (p := ⟨wr.heap.size, 2, none⟩) hze).trans y2
        have hz2 : wr.heap.size < w2.heap.size := Nat.lt_of_lt_of_le hze hb2.size
        have hv2 : Below wr.heap.size wr w2 := bel_trans hve hb2
        have hfa := (HF1.out a (by omega)).below hv2
        obtain ⟨⟨u0, k0⟩, f0⟩ := hfa 0 (by decide)
        obtain ⟨⟨u1, k1⟩, f1⟩ := hfa 1 (by decide)
        obtain ⟨⟨u2, k2⟩, f2⟩ := hfa 2 (by decide)
        rw [Nat.add_zero] at k0 f0
        have HFA := Lib.hid hfa
        have hbl2 : b < w2.heap.size := Nat.lt_of_lt_of_le hbl hv2.size
        clear y0 y1 y2 hfa
        go_wp2
        go_roundw
        case rel =>
          have hlen : (keepR p (x.take (jj + 1))).length = a + 1 := by rw [HY.out, List.length_append, List.length_singleton, ← HA.out]
          refine ⟨jj + 1, by omega, by omega, by rw [hlen]; go_num, by go_num, by omega, fun q hq => ?_, fun q hq hjq => ?_, fun q hq => ?_, ?_⟩
          · rw [hlen] at hq
            by_cases hqa : q = a
            · subst hqa
              have e : (keepR p (x.take (jj + 1)))[q] = x[jj] := by
                simp only [HY.out]
                rw [List.getElem_append_right (by rw [← HA.out]; exact Nat.le_refl _)]
                simp [← HA.out]
              rw [e]; exact reqAt.here HFA.out
            · have hq' : q < (keepR p (x.take jj)).length := by rw [← HA.out]; omega
              have e : (keepR p (x.take (jj + 1)))[q] = (keepR p (x.take jj))[q] := by
                simp only [HY.out]
                rw [List.getElem_append_left hq']
              rw [e]; exact ((HA1.out q hq').below hv2).put3 hqa
          · exact ((HX1.out q hq (by omega)).below hv2).put3 (by omega)
          · exact ((HF1.out q hq).below hv2).put3 HFA.out
          · exact (((HG.out.then_ hv2).set (p := ⟨b, _, none⟩) (List.mem_singleton.2 rfl) _).set (p := ⟨b, _, none⟩) (List.mem_singleton.2 rfl) _).set (p := ⟨b, _, none⟩) (List.mem_singleton.2 rfl) _
        case measure => simp [intOf]; omega
      · have HY := Lib.hid (keepR_no hlt2 hq)
        rw [hq] at hcall
        clear hq
        go_wp2_with (go_at_fn g; refine hcall.mono ?_; rintro e w2 ⟨rfl, hb2⟩)
        have hv2 : Below wr.heap.size wr w2 := bel_trans hve hb2
        go_roundw
        case rel =>
          exact ⟨jj + 1, by omega, by omega, by rw [HY.out, ← HA.out], by go_num, by rw [HY.out, ← HA.out]; omega, fun q hq => by simp only [HY.out] at hq ⊢; exact (HA1.out q hq).below hv2, fun q hq hjq => (HX1.out q hq (by omega)).below hv2, fun q hq => (HF1.out q hq).below hv2, HG.out.then_ hv2⟩
        case measure => simp [intOf]; omega
    · have hjx : jj = x.length := by omega
      have HKE : Hid (keepR p (x.take jj) = keepR p x) := by unfold Hid; rw [hjx, List.take_length]
      have hca : c ≠ a := by omega
      obtain ⟨zs, hcl⟩ := run_clear_cells (P := Try.prog) (w := wr) 54 58 0 Try.underlying54 Try.zeroValue58 (by decide) b (o + a * 3) (x.length - a) (c - a) (by omega) (fun r hr => by
        have hr' : r < (x.length - a) * 3 := hr
        have hh := HF1.out (a + r / 3) (by omega) (r % 3) (Nat.mod_lt _ (by decide))
        have e : o + a * 3 + r = o + (a + r / 3) * 3 + r % 3 := by omega
        rw [e]
        obtain ⟨⟨u, hu⟩, hf⟩ := hh
        exact ⟨by rw [hu]; rfl, hf⟩)
      have i3 : (a : Int) ≤ (x.length : Int) := by omega
      have hax : a ≤ x.length := by omega
      have hac : a ≤ c := by omega
      go_wp2
      go_ret
      have hlen : (keepR p x).length = a := by rw [← HKE.out, ← HA.out]
      rw [hlen]
      have how := ow_reqs_mk (w := wr.setCells b (o + a * 3) zs) (b := b) (o := o) (c := c) (x := keepR p x) (by rw [hlen]; omega) hcm (fun q hq => by
        have hq' : q < (keepR p (x.take jj)).length := by rw [HKE.out]; exact hq
        have e : (keepR p x)[q] = (keepR p (x.take jj))[q] := by simp only [HKE.out]
        rw [e]; exact (HA1.out q hq').sets zs (by rw [← HA.out] at hq'; omega)) (fun q hq r hr => by rw [World.frozen?_setCells]; exact (HF1.out q (by rw [hlen] at hq; omega) r hr).2) (fun q hq => by
        have hm : (keepR p x)[q] ∈ x := (List.mem_filter.1 (List.getElem_mem hq)).1
        obtain ⟨i, hi, hie⟩ := List.getElem_of_mem hm
        rw [← hie]; exact HI.out i hi)
      rw [hlen] at how
      refine ⟨_, c, _, rfl, how, ?_, GrB.sets (List.mem_singleton.2 rfl) zs _ _ HG.out⟩
      split
      · exact List.nil_sublist _
      · exact List.Sublist.refl _
end Go.Proofs.Ytpjnidfdkggpfaa
