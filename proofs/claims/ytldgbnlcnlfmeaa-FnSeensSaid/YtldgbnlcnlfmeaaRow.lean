/- Slices that a call builds by append: rows of flat elements. No program in sight. -/
import Derived.Test.YtldgbnlcnlfmeaaBase
import Derived.OwnWalk
import Derived.ArgAppend
import Derived.Laws.OwnMore
namespace Go.Proofs.Ytldgbnlcnlfmeaa
open Go.RowKit
set_option linter.unusedVariables false
set_option linter.unusedSimpArgs false

/-- A shape of one cell that holds no memory of its own. -/
structure Flat (e : Ty) where
  enc : e.D → Value
  ok : e.D → Prop
  sz : e.sz = 1
  one : ∀ d, (enc d).oneCell' = true
  rd : ∀ (w : World) (cs : List Value) (d : e.D), e.rd w cs d ↔ cs = [enc d] ∧ ok d
  ow : ∀ (w : World) (cs : List Value) (d : e.D) (f : List Nat), e.ow w cs d f ↔ (cs = [enc d] ∧ ok d) ∧ f = []
def flatI : Flat .int := ⟨fun n => .int .i64 n, fun n => -9223372036854775808 ≤ n ∧ n ≤ 9223372036854775807, rfl, fun _ => rfl, fun _ _ _ => Iff.rfl, fun _ _ _ _ => Iff.rfl⟩
def flatB : Flat .byte := ⟨fun n => .int .u8 (n.toNat : Int), fun _ => True, rfl, fun _ => rfl, fun _ _ _ => by simp [Ty.rd, rdByte], fun _ _ _ _ => by simp [Ty.ow, rdByte]⟩
def flatS : Flat .str := ⟨fun s => vS s, fun s => s.length ≤ 9223372036854775807, rfl, fun _ => rfl, fun _ _ _ => Iff.rfl, fun _ _ _ _ => Iff.rfl⟩

/-- A row that the call owns: appended to at will. -/
def Row {e : Ty} (F : Flat e) (w : World) (base : Nat) (te : TypeId) (v : Value) (x : List e.D) : Prop :=
  w.ownsRow base te 1 v x.length (x.map F.enc) ∧ ∀ d ∈ x, F.ok d
theorem Row.nil {e : Ty} (F : Flat e) (w : World) (base : Nat) (te : TypeId) : Row F w base te (.slice none 0 0) [] := ⟨World.ownsRow_nil w base te 1, fun d hd => absurd hd (by simp)⟩
theorem Row.le {e : Ty} {F : Flat e} {w : World} {base : Nat} {te : TypeId} {v : Value} {x : List e.D} (h : Row F w base te v x) : x.length ≤ maxLen := by
  rcases h.1.2 with ⟨_, hn⟩ | ⟨g, cap, cur, _, _, _, h1, h2, _⟩
  · rw [hn]; exact Nat.zero_le _
  · exact Nat.le_trans h1 h2
theorem Row.form {e : Ty} {F : Flat e} {w : World} {base : Nat} {te : TypeId} {v : Value} {x : List e.D} (h : Row F w base te v x) : ∃ A c, v = .slice A x.length c := by
  rcases h.1.2 with ⟨rfl, hn⟩ | ⟨g, cap, cur, rfl, _⟩
  · exact ⟨none, 0, by rw [hn]⟩
  · exact ⟨_, _, rfl⟩
theorem Row.cells {e : Ty} {F : Flat e} {w : World} {base : Nat} {te : TypeId} {g : Nat} {c : Nat} {x : List e.D} (h : Row F w base te (.slice (some ⟨g, 0, none⟩) x.length c) x) (i : Nat) (hi : i < x.length) :
    w.cell? ⟨g, 0 + i * 1 + 0, none⟩ = some (F.enc x[i]) ∧ w.frozen? ⟨g, 0 + i * 1 + 0, none⟩ = false := by
  rcases h.1.2 with ⟨h', _⟩ | ⟨g', cap', cur, h', _, hg, h3, _, _, htake⟩
  · simp at h'
  · simp only [Value.slice.injEq, Option.some.injEq, Addr.mk.injEq, and_true, true_and] at h'
    obtain ⟨rfl, rfl⟩ := h'
    refine ⟨?_, ?_⟩
    · have := h.1.cellAt i (by omega)
      rw [show 0 + i * 1 + 0 = i from by omega, this]
      simp [hi]
    · exact Blk.frozen (t := te) (cs := cur) hg _
theorem Row.own {e : Ty} {F : Flat e} {w : World} {base : Nat} {te : TypeId} {v : Value} {x : List e.D} (h : Row F w base te v x) (hb : base ≤ w.heap.size) :
    ∃ A c fp, v = .slice A x.length c ∧ (Ty.sl e).ow w [v] x fp ∧ FrI base w.heap.size fp := by
  have hl := h.le
  unfold maxLen at hl
  rcases h.1.2 with ⟨rfl, hn⟩ | ⟨g, cap, cur, rfl, hbg, hg, h3, h4, _, htake⟩
  · have hx : x = [] := List.eq_nil_of_length_eq_zero hn
    subst hx
    exact ⟨none, 0, [], rfl, ⟨none, 0, rfl, by simp, ⟨by unfold maxLen; omega, fun _ => rfl⟩, by simp, .inl ⟨rfl, rfl⟩⟩, FrI.nil _ _⟩
  · have hlt : g < w.heap.size := Blk.lt (t := te) (cs := cur) hg
    by_cases h0 : x.length = 0
    · exact ⟨_, _, [], rfl, ⟨_, _, rfl, h3, ⟨h4, fun h => by cases h⟩, by omega, .inl ⟨h0, rfl⟩⟩, FrI.nil _ _⟩
    · refine ⟨_, _, g :: (List.range x.length).flatMap fun _ => [], rfl, ⟨_, _, rfl, h3, ⟨h4, fun h => by cases h⟩, by omega, .inr ⟨by show 0 < x.length; omega, g, 0, fun _ => [], rfl, rfl, fun i hi => ?_⟩⟩, ?_⟩
      · refine ⟨[F.enc x[i]], by rw [F.sz]; rfl, fun j hj => ?_, (F.ow _ _ _ _).2 ⟨⟨rfl, h.2 _ (List.getElem_mem hi)⟩, rfl⟩⟩
        rw [F.sz] at hj ⊢
        obtain rfl : j = 0 := by omega
        exact h.cells i hi
      · rw [List.flatMap_eq_nil_iff.2 (fun _ _ => rfl)]
        refine ⟨by simp, fun b hb' => ?_⟩
        simp at hb'
        omega
theorem Row.rd {e : Ty} {F : Flat e} {w : World} {base : Nat} {te : TypeId} {v : Value} {x : List e.D} (h : Row F w base te v x) (hb : base ≤ w.heap.size) : (Ty.sl e).rd w [v] x := by
  obtain ⟨A, c, fp, _, how, _⟩ := h.own hb
  exact Ty.ow_rd how
theorem Row.block {e : Ty} {F : Flat e} {w : World} {base : Nat} {te : TypeId} {v : Value} {x : List e.D} (h : Row F w base te v x) : ∀ g, v.ownBlock = some g → base ≤ g ∧ g < w.heap.size := by
  intro g hg
  rcases h.1.2 with ⟨rfl, _⟩ | ⟨g', cap', cur, rfl, hbg, hgg, _⟩
  · simp [Value.ownBlock] at hg
  · simp [Value.ownBlock] at hg
    subst hg
    exact ⟨hbg, Blk.lt (t := te) (cs := cur) hgg⟩
/-- What lay below stays, and the row with it. -/
theorem Row.below {e : Ty} {F : Flat e} {w w' : World} {base : Nat} {te : TypeId} {v : Value} {x : List e.D} (h : Row F w base te v x) (hb : Below w.heap.size w w') : Row F w' base te v x := by
  refine ⟨?_, h.2⟩
  refine ⟨h.1.1, ?_⟩
  rcases h.1.2 with hn | ⟨g, cap, cur, rfl, hbg, hgg, rest⟩
  · exact .inl hn
  · exact .inr ⟨g, cap, cur, rfl, hbg, (hb.block g (Blk.lt (t := te) (cs := cur) hgg)).trans hgg, rest⟩
theorem Row.mono {e : Ty} {F : Flat e} {w : World} {base base' : Nat} {te : TypeId} {v : Value} {x : List e.D} (h : Row F w base te v x) (hb : base' ≤ base) : Row F w base' te v x := by
  refine ⟨⟨h.1.1, ?_⟩, h.2⟩
  rcases h.1.2 with hn | ⟨g, cap, cur, rfl, hbg, hgg, rest⟩
  · exact .inl hn
  · exact .inr ⟨g, cap, cur, rfl, Nat.le_trans hb hbg, hgg, rest⟩
/-- A write to the row alone leaves what lay below the base. -/
theorem bel_grown {w0 w w' : World} {B : Nat} {row : Option Nat} (h : Below B w0 w) (hB : B ≤ w.heap.size) (hg : w.grownBy w' row) (hrow : ∀ g, row = some g → B ≤ g) : Below B w0 w' :=
  ⟨hg.os.trans h.os, hg.tape.trans h.tape, hg.output.trans h.output, Nat.le_trans h.size hg.size, fun k hk => (hg.block k (by omega) (fun e => by have := hrow k e.symm; omega)).trans (h.block k hk)⟩
/-- The literal of one element. -/
theorem Row.lit1 {e : Ty} (F : Flat e) (w : World) (te : TypeId) (d : e.D) (hd : F.ok d) {base : Nat} (hb : base ≤ w.heap.size) : Row F (w.alloc (.cells #[F.enc d] te)) base te (.slice (some ⟨w.heap.size, 0, none⟩) 1 1) [d] :=
  ⟨World.ownsRow_lit w #[F.enc d] 1 hb (by unfold maxLen; omega) (by simp), fun a ha => by simp at ha; subst ha; exact hd⟩
theorem Row.lit0 {e : Ty} (F : Flat e) (w : World) (te : TypeId) {base : Nat} (hb : base ≤ w.heap.size) : Row F (w.alloc (.cells #[] te)) base te (.slice (some ⟨w.heap.size, 0, none⟩) 0 0) [] :=
  ⟨World.ownsRow_lit w #[] 0 hb (by unfold maxLen; omega) (by simp), fun a ha => absurd ha (by simp)⟩
theorem Row.lit2 {e : Ty} (F : Flat e) (w : World) (te : TypeId) (d d2 : e.D) (hd : F.ok d) (hd2 : F.ok d2) {base : Nat} (hb : base ≤ w.heap.size) : Row F (w.alloc (.cells #[F.enc d, F.enc d2] te)) base te (.slice (some ⟨w.heap.size, 0, none⟩) 2 2) [d, d2] :=
  ⟨World.ownsRow_lit w #[F.enc d, F.enc d2] 2 hb (by unfold maxLen; omega) (by simp), fun a ha => by simp at ha; rcases ha with rfl | rfl <;> assumption⟩

/-- Nothing is appended. -/
theorem run_append_zero {P : Program} {w : World} (base : Nat) (t ty e : TypeId) (i : TypeInfo) (size : Nat) (ht : P.underlying t = some (.slice e)) (hi : P.info? e = some i)
    (v : Value) (n : Nat) (xs : List Value) (hown : w.ownsRow base e size v n xs) (A : Option Addr) (c : Nat) :
    (Builtin.append_ #[t, t] ty #[v, .slice A 0 c]).run P w = .ok v w := by
  rcases hown.2 with ⟨rfl, rfl⟩ | ⟨g, cap, cur, rfl, _, _, hnc, _⟩ <;> cases A <;>
    simp [Builtin.append_, run_underlying ht, sizeOf, typeInfo, hi, Builtin.lenOf, Builtin.firstCells, storeCells, loadCells, loadCellsFrom, *]

theorem run_append_row {P : Program} {w : World} {e : Ty} (F : Flat e) (base : Nat) (t ty te : TypeId) {z : Value} {by_ : Nat} (hinfo : (P.info? te).map (fun i => (i.zero, i.size, i.bytes)) = some (some z, 1, by_)) (hz1 : z.cells.size = 1) (ht : P.underlying t = some (.slice te))
    (v u : Value) (x y : List e.D) (hown : Row F w base te v x) (hy : (Ty.sl e).rd w [u] y) (hbytes : (x.length + y.length) * by_ ≤ 140737488355328) (hlen : x.length + y.length ≤ maxLen) (hbase : base ≤ w.heap.size) :
    ∃ v' w', (Builtin.append_ #[t, t] ty #[v, u]).run P w = .ok v' w' ∧ Row F w' base te v' (x ++ y) ∧ w.grownBy w' v.ownBlock := by
  obtain ⟨i, hi, hzz⟩ := Option.map_eq_some_iff.1 hinfo
  simp only [Prod.mk.injEq] at hzz
  obtain ⟨hz, hsz, hby⟩ := hzz
  obtain ⟨A, c, hu, hyc, hcm, hyn, hcell⟩ := hy
  injection hu with hu _
  subst hu
  have hok : ∀ d ∈ y, F.ok d := by
    intro d hd
    obtain ⟨j, hj, rfl⟩ := List.getElem_of_mem hd
    obtain ⟨b, o, _, h3⟩ := hcell (by omega)
    obtain ⟨ds, _, _, h4⟩ := h3 j hj
    exact ((F.rd _ _ _).1 h4).2
  by_cases h0 : y.length = 0
  · have hy0 : y = [] := List.eq_nil_of_length_eq_zero h0
    subst hy0
    exact ⟨v, w, run_append_zero base t ty te i 1 ht hi v _ _ hown.1 A c, by rw [List.append_nil]; exact hown, World.grownBy.refl _ _⟩
  · obtain ⟨b, o, rfl, h3⟩ := hcell (by omega)
    obtain ⟨v', w', hr, h2, h4, _⟩ := run_append_own (P := P) w base t ty te i z 1 by_ ht hi hz hsz hby hz1 (by omega) v x.length (x.map F.enc) hown.1 ⟨b, o, none⟩ y.length c (y.map F.enc) (by simp)
      (fun j u hj => by
        have hj' : j < y.length := by
          have := (List.getElem?_eq_some_iff.1 hj).1
          simpa using this
        obtain ⟨ds, h5, h6, h7⟩ := h3 j hj'
        have h8 := ((F.rd _ _ _).1 h7).1
        have h9 := h6 0 (by rw [F.sz]; omega)
        rw [F.sz, h8, show o + j * 1 + 0 = o + j from by omega] at h9
        rw [Addr.add_lit, h9]
        simp [hj'] at hj ⊢
        exact hj)
      (fun u hu => by obtain ⟨d, _, rfl⟩ := List.mem_map.1 hu; exact F.one d) hlen hbytes hbase
    refine ⟨v', w', hr, ⟨?_, fun d hd => ?_⟩, h4⟩
    · rw [List.length_append, List.map_append]; exact h2
    · rcases List.mem_append.1 hd with h | h
      · exact hown.2 d h
      · exact hok d h

/-- 'append(out, y...)' for the walk. -/
theorem wpList_append_row {P : Program} {w : World} {ops : Array Oper} {rest : List Oper} {o : Oper} {a : Act} {Q : Exit → Act → World → Prop} (hgd : o.guard = none) (s xo : Operand) (t : TypeId)
    (ho : o.op = .call { callee := .builtin .append, args := #[s, xo], argTypes := #[t, t] }) {e : Ty} (F : Flat e) (base : Nat) (te : TypeId) {z : Value} {by_ : Nat}
    (hinfo : (P.info? te).map (fun i => (i.zero, i.size, i.bytes)) = some (some z, 1, by_)) (hz1 : z.cells.size = 1) (ht : P.underlying t = some (.slice te))
    (v u : Value) (x y : List e.D) (hs : a.eval s = v) (hx : a.eval xo = u) (hown : Row F w base te v x) (hy : (Ty.sl e).rd w [u] y) (hbytes : (x.length + y.length) * by_ ≤ 140737488355328) (hlen : x.length + y.length ≤ maxLen) (hbase : base ≤ w.heap.size)
    (h : ∀ v' w', Row F w' base te v' (x ++ y) → w.grownBy w' v.ownBlock → wpList P ops Q rest (a.put o.dst v') w') : wpList P ops Q (o :: rest) a w := by
  obtain ⟨v', w', hr, h2, h3⟩ := run_append_row (P := P) F base t o.type te hinfo hz1 ht v u x y hown hy hbytes hlen hbase
  refine wpList_plain hgd fun K hK => ?_
  unfold Oper.wp execOp
  simp only [ho, resolve, invoke, builtin, Sem.run_bind, Sem.run_pure, Result.andThen_ok, List.map_toArray, List.map_cons, List.map_nil, hs, hx, hr]
  exact hK _ _ (h v' w' h2 h3)

/-- A call that hands back a row of its own. -/
def RetRow {e : Ty} (F : Flat e) (w : World) (te : TypeId) (x : List e.D) (r : Ending) (w' : World) : Prop :=
  ∃ v, r = .returned v ∧ Row F w' w.heap.size te v x ∧ Below w.heap.size w w'
theorem RetRow.sl {e : Ty} {F : Flat e} {w : World} {te : TypeId} {x : List e.D} {r : Ending} {w' : World} (h : RetRow F w te x r w') : RetSl w e x r w' := by
  obtain ⟨v, rfl, hr, hb⟩ := h
  obtain ⟨A, c, fp, rfl, how, hfr⟩ := hr.own hb.size
  exact ⟨A, c, fp, rfl, how, hfr, hb⟩
end Go.Proofs.Ytldgbnlcnlfmeaa
