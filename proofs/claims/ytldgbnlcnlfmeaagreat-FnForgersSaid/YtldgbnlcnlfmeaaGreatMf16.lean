/- Texts of this claim, merged by a program: Dtr. -/
import Derived.Test.YtldgbnlcnlfmeaaGreatMf2
import Derived.Test.YtldgbnlcnlfmeaaGreatMf7
import Derived.Deep.RegionHeld3
/- Data whose content may be appended to. Printed by gen58.py. -/
namespace Go.Proofs.YtldgbnlcnlfmeaaGreat
open Go.RowKit
set_option linter.unusedVariables false
set_option linter.unusedSimpArgs false

/-- Data in memory of its own between lo and hi, the content a row that may grow. -/
def DataR (te : TypeId) (w : World) (lo hi : Nat) (cs : List Value) (x : tData.D) : Prop :=
  ∃ v0 v1 v2 f0 f2 m1 m2, cs = [v0, v1, v2, .int .i64 x.2.2.2.1, .int .i64 x.2.2.2.2] ∧ (Ty.sl .str).ow w [v0] x.1 f0 ∧ FrI lo m1 f0 ∧ Row flatB w m1 te v1 x.2.1 ∧ (∀ g, v1.ownBlock = some g → g < m2) ∧
    (Ty.sl .str).ow w [v2] x.2.2.1 f2 ∧ FrI m2 hi f2 ∧ (lo ≤ m1 ∧ m1 ≤ m2 ∧ m2 ≤ hi ∧ hi ≤ w.heap.size) ∧ (-9223372036854775808 ≤ x.2.2.2.1 ∧ x.2.2.2.1 ≤ 9223372036854775807) ∧ (-9223372036854775808 ≤ x.2.2.2.2 ∧ x.2.2.2.2 ≤ 9223372036854775807)
section
variable {te : TypeId} {w w' : World} {lo hi : Nat} {cs : List Value} {x : tData.D}
theorem Row.keep_ {e : Ty} {F : Flat e} {w w' : World} {base : Nat} {te : TypeId} {v : Value} {x : List e.D} (h : Row F w base te v x) (hk : ∀ g, v.ownBlock = some g → w'.heap[g]? = w.heap[g]?) : Row F w' base te v x := by
  refine ⟨⟨h.1.1, ?_⟩, h.2⟩
  rcases h.1.2 with hn | ⟨g, cap, cur, rfl, hbg, hgg, rest⟩
  · exact .inl hn
  · exact .inr ⟨g, cap, cur, rfl, hbg, (hk g rfl).trans hgg, rest⟩
theorem DataR.keep (h : DataR te w lo hi cs x) (hs : w.heap.size ≤ w'.heap.size) (hk : ∀ b, lo ≤ b → b < hi → w'.heap[b]? = w.heap[b]?) : DataR te w' lo hi cs x := by
  obtain ⟨v0, v1, v2, f0, f2, m1, m2, h1, h2, h3, h4, h5, h6, h7, h8, h9⟩ := h
  refine ⟨v0, v1, v2, f0, f2, m1, m2, h1, Ty.ow_keep (fun b hb => hk b (h3.2 b hb).1 (by have := (h3.2 b hb).2; omega)) h2, h3, Row.keep_ h4 (fun g hg => hk g (by have := (h4.block g hg).1; omega) (by have := h5 g hg; omega)), h5, Ty.ow_keep (fun b hb => hk b (by have := (h7.2 b hb).1; omega) (h7.2 b hb).2) h6, h7, ⟨h8.1, h8.2.1, h8.2.2.1, Nat.le_trans h8.2.2.2 hs⟩, h9⟩
theorem DataR.below (h : DataR te w lo hi cs x) (hb : Below w.heap.size w w') : DataR te w' lo hi cs x := h.keep hb.size (fun b _ h2 => hb.block b (by obtain ⟨_, _, _, _, _, _, _, _, _, _, _, _, _, _, h8, _⟩ := h; omega))
theorem DataR.alloc (h : DataR te w lo hi cs x) (o : Obj) : DataR te (w.alloc o) lo hi cs x := h.below (bel_alloc (Below.refl _ _) o)
theorem DataR.drew (h : DataR te w lo hi cs x) : DataR te w.drew lo hi cs x := h.below (bel_drew (Below.refl _ _))
theorem DataR.drewN (h : DataR te w lo hi cs x) (n : Nat) : DataR te (w.drewN n) lo hi cs x := h.below (bel_drewN (Below.refl _ _) n)
theorem DataR.set (h : DataR te w lo hi cs x) {p : Addr} (hp : p.block < lo ∨ hi ≤ p.block) (u : Value) : DataR te (w.setCell p u) lo hi cs x :=
  h.keep (by rw [World.size_setCell]; exact Nat.le_refl _) (fun b h1 h2 => Below.heap_setCell _ _ _ _ (by omega))
theorem DataR.dr {B : Nat} (h : DataR te w lo hi cs x) (hd : Dr B w w') (hB : B < lo) : DataR te w' lo hi cs x := h.keep hd.size (fun b h1 h2 => hd.block (by obtain ⟨_, _, _, _, _, _, _, _, _, _, _, _, _, _, h8, _⟩ := h; omega) (by omega))
theorem DataR.mono {lo' hi' : Nat} (h : DataR te w lo hi cs x) (h1 : lo' ≤ lo) (h2 : hi ≤ hi') (h3 : hi' ≤ w.heap.size) : DataR te w lo' hi' cs x := by
  obtain ⟨v0, v1, v2, f0, f2, m1, m2, e1, e2, e3, e4, e5, e6, e7, e8, e9⟩ := h
  exact ⟨v0, v1, v2, f0, f2, m1, m2, e1, e2, e3.mono h1 (Nat.le_refl _), e4, e5, e6, e7.mono (Nat.le_refl _) h2, ⟨by omega, e8.2.1, by omega, h3⟩, e9⟩
theorem Row.own_ {e : Ty} {F : Flat e} {w : World} {base m : Nat} {te : TypeId} {v : Value} {x : List e.D} (h : Row F w base te v x) (hb : base ≤ w.heap.size) (hm : ∀ g, v.ownBlock = some g → g < m) : ∃ fp, (Ty.sl e).ow w [v] x fp ∧ FrI base m fp := by
  obtain ⟨A, c, fp, rfl, how, hfr⟩ := h.own hb
  by_cases h0 : x.length = 0
  · refine ⟨[], ?_, FrI.nil _ _⟩
    obtain ⟨A', c', e1, e2, e3, e4, e5⟩ := how
    rcases e5 with ⟨e5, e6⟩ | ⟨e5, _⟩
    · exact ⟨A', c', e1, e2, e3, e4, .inl ⟨e5, rfl⟩⟩
    · omega
  · rcases h.1.2 with ⟨e, hn⟩ | ⟨g, cap, cur, e, hbg, hgg, h3, h4, _, htake⟩
    · omega
    · simp only [Value.slice.injEq] at e
      obtain ⟨rfl, _, rfl⟩ := e
      refine ⟨fp, how, hfr.1, fun b hb' => ⟨(hfr.2 b hb').1, ?_⟩⟩
      obtain ⟨A', c', e1, e2, e3, e4, e5⟩ := how
      rcases e5 with ⟨e5, e6⟩ | ⟨e5, b2, o2, fs, e6, e7, e8⟩
      · omega
      · simp only [List.cons.injEq, Value.slice.injEq, and_true, true_and] at e1
        obtain ⟨e1, _⟩ := e1
        rw [← e1] at e6
        simp only [Option.some.injEq, Addr.mk.injEq] at e6
        have hg := hm g rfl
        rw [e7] at hb'
        rcases List.mem_cons.1 hb' with rfl | hb'
        · omega
        · obtain ⟨i, hi, hb'⟩ := List.mem_flatMap.1 hb'
          obtain ⟨ds, _, _, e9⟩ := e8 i (List.mem_range.1 hi)
          rw [((F.ow _ _ _ _).1 e9).2] at hb'
          cases hb'
theorem DataR.ow (h : DataR te w lo hi cs x) : ∃ fp, tData.ow w cs x fp ∧ FrI lo hi fp := by
  obtain ⟨v0, v1, v2, f0, f2, m1, m2, rfl, h2, h3, h4, h5, h6, h7, h8, h9⟩ := h
  obtain ⟨f1, h10, h11⟩ := h4.own_ (by omega) h5
  obtain ⟨A0, c0, e0⟩ := Ty.ow_slv h2
  obtain ⟨A2, c2, e2⟩ := Ty.ow_slv h6
  obtain ⟨A1, c1, rfl⟩ := h4.form
  simp only [List.cons.injEq, and_true] at e0 e2
  subst e0 e2
  refine ⟨_, ow_Data_mk h2 h10 h6 h9.1 h9.2, ?_⟩
  exact fr3 (m1 := m1) (m2 := m2) h3 h11 h7 (by omega) (by omega) (by omega)
theorem DataR.signed_ {m a b : Int} {v0 v1 v2 : Value} (hm : -9223372036854775808 ≤ m ∧ m ≤ 9223372036854775807) (h : DataR te w lo hi [v0, v1, v2, .int .i64 a, .int .i64 b] x) : DataR te w lo hi [v0, v1, v2, .int .i64 x.2.2.2.1, .int .i64 m] (signed x m) := by
  obtain ⟨u0, u1, u2, f0, f2, m1, m2, h1, h2, h3, h4, h5, h6, h7, h8, h9⟩ := h
  simp only [List.cons.injEq, and_true] at h1
  obtain ⟨rfl, rfl, rfl, _, _⟩ := h1
  exact ⟨_, _, _, f0, f2, m1, m2, rfl, h2, h3, h4, h5, h6, h7, h8, h9.1, hm⟩
theorem DataR.form (h : DataR te w lo hi cs x) : ∃ (A0 : Option Addr) (c0 : Nat) (A1 : Option Addr) (c1 : Nat) (A2 : Option Addr) (c2 : Nat), cs = [.slice A0 (List.length x.1) c0, .slice A1 (List.length x.2.1) c1, .slice A2 (List.length x.2.2.1) c2, .int .i64 x.2.2.2.1, .int .i64 x.2.2.2.2] := by
  obtain ⟨fp, how, _⟩ := h.ow
  exact ow_Data how
theorem DataR.zero (te : TypeId) (w : World) : DataR te w w.heap.size w.heap.size [.slice none 0 0, .slice none 0 0, .slice none 0 0, .int .i64 0, .int .i64 0] zeroData :=
  ⟨_, _, _, [], [], w.heap.size, w.heap.size, rfl, ⟨none, 0, rfl, Nat.le_refl _, ⟨Nat.zero_le _, fun _ => rfl⟩, by decide, .inl ⟨rfl, rfl⟩⟩, FrI.nil _ _, Row.nil _ _ _ _, (fun g h => by cases h), ⟨none, 0, rfl, Nat.le_refl _, ⟨Nat.zero_le _, fun _ => rfl⟩, by decide, .inl ⟨rfl, rfl⟩⟩, FrI.nil _ _, ⟨Nat.le_refl _, Nat.le_refl _, Nat.le_refl _, Nat.le_refl _⟩, by decide, by decide⟩
end
def RetDataR (te : TypeId) (w : World) (x : tData.D) (e : Ending) (w' : World) : Prop := ∃ cs, e = .returned (.agg cs.toArray) ∧ DataR te w' w.heap.size w'.heap.size cs x ∧ Below w.heap.size w w'
def RetDataR2 (te : TypeId) (w : World) (x : tData.D) (u : Value) (e : Ending) (w' : World) : Prop := ∃ cs, e = .returned (.tuple #[.agg cs.toArray, u]) ∧ DataR te w' w.heap.size w'.heap.size cs x ∧ Below w.heap.size w w'
set_option maxRecDepth 100000 in
set_option maxHeartbeats 2000000 in
theorem C_spec_l8CopyR (w : World) (cs : List Value) (x : tData.D) (h : tData.rd w cs x) (s0 : Ty.bulk tData x ≤ 1000000000) :
    Calls Tryz.prog 139 #[.agg cs.toArray] w (RetDataR 5 w x) := by
  obtain ⟨As0, cs0, As1, cs1, As2, cs2, rfl, sg0, sg1, sg2, sg3, sg4⟩ := rd_Data h
  obtain ⟨l0, l1, l2⟩ := data_parts s0
  go_enter Tryz.func139, Tryz.ntmps139
  go_wp2_with fail
  refine (C_spec_l4Copy _ _ x.1 (Ty.rd_below (by repeat' (first | (with_reducible exact Below.refl _ _) | (with_reducible assumption) | (with_reducible refine bel_set ?_ (by (try dsimp only); omega) _) | (with_reducible refine bel_alloc ?_ _) | (with_reducible refine bel_drewN ?_ _) | (with_reducible refine bel_drew ?_))) sg0) (by omega)).mono ?_
  rintro e w0 ⟨cs0, fp0, rfl, how0, hfr0, hb0⟩
  obtain ⟨A0, c0, rfl⟩ := Ty.ow_slv how0
  have hz0 := hb0.size
  simp only [World.size_alloc, World.size_setCell] at hz0
  have hw0 : Below w.heap.size w w0 := bel_trans (by repeat' (first | (with_reducible exact Below.refl _ _) | (with_reducible assumption) | (with_reducible refine bel_set ?_ (by (try dsimp only); omega) _) | (with_reducible refine bel_alloc ?_ _) | (with_reducible refine bel_drewN ?_ _) | (with_reducible refine bel_drew ?_))) hb0
  have hB0 : Blk w0 (w.heap.size) 34 #[.slice As0 (List.length x.1) cs0, .slice As1 (List.length x.2.1) cs1, .slice As2 (List.length x.2.2.1) cs2, .int .i64 x.2.2.2.1, .int .i64 x.2.2.2.2] := (((Blk.new w 34 #[.slice As0 (List.length x.1) cs0, .slice As1 (List.length x.2.1) cs1, .slice As2 (List.length x.2.2.1) cs2, .int .i64 x.2.2.2.1, .int .i64 x.2.2.2.2]).alloc _).alloc _).below hb0 (by simp only [World.size_alloc]; omega)
  have hR0 : Blk w0 (w.heap.size + 1) 34 #[.slice none 0 0, .slice none 0 0, .slice none 0 0, .int .i64 0, .int .i64 0] := ((show Blk ((w.alloc (.cells #[.slice As0 (List.length x.1) cs0, .slice As1 (List.length x.2.1) cs1, .slice As2 (List.length x.2.2.1) cs2, .int .i64 x.2.2.2.1, .int .i64 x.2.2.2.2] 34)).alloc (.cells #[.slice none 0 0, .slice none 0 0, .slice none 0 0, .int .i64 0, .int .i64 0] 34)) (w.heap.size + 1) 34 #[.slice none 0 0, .slice none 0 0, .slice none 0 0, .int .i64 0, .int .i64 0] from by have := Blk.new (w.alloc (.cells #[.slice As0 (List.length x.1) cs0, .slice As1 (List.length x.2.1) cs1, .slice As2 (List.length x.2.2.1) cs2, .int .i64 x.2.2.2.1, .int .i64 x.2.2.2.2] 34)) 34 #[.slice none 0 0, .slice none 0 0, .slice none 0 0, .int .i64 0, .int .i64 0]; rwa [World.size_alloc] at this).alloc _).below hb0 (by simp only [World.size_alloc]; omega)
  have hO0 : Blk w0 (w.heap.size + 1 + 1) 34 #[.slice As0 (List.length x.1) cs0, .slice As1 (List.length x.2.1) cs1, .slice As2 (List.length x.2.2.1) cs2, .int .i64 x.2.2.2.1, .int .i64 x.2.2.2.2] := (show Blk (((w.alloc (.cells #[.slice As0 (List.length x.1) cs0, .slice As1 (List.length x.2.1) cs1, .slice As2 (List.length x.2.2.1) cs2, .int .i64 x.2.2.2.1, .int .i64 x.2.2.2.2] 34)).alloc (.cells #[.slice none 0 0, .slice none 0 0, .slice none 0 0, .int .i64 0, .int .i64 0] 34)).alloc (.cells #[.slice As0 (List.length x.1) cs0, .slice As1 (List.length x.2.1) cs1, .slice As2 (List.length x.2.2.1) cs2, .int .i64 x.2.2.2.1, .int .i64 x.2.2.2.2] 34)) (w.heap.size + 1 + 1) 34 #[.slice As0 (List.length x.1) cs0, .slice As1 (List.length x.2.1) cs1, .slice As2 (List.length x.2.2.1) cs2, .int .i64 x.2.2.2.1, .int .i64 x.2.2.2.2] from by have := Blk.new ((w.alloc (.cells #[.slice As0 (List.length x.1) cs0, .slice As1 (List.length x.2.1) cs1, .slice As2 (List.length x.2.2.1) cs2, .int .i64 x.2.2.2.1, .int .i64 x.2.2.2.2] 34)).alloc (.cells #[.slice none 0 0, .slice none 0 0, .slice none 0 0, .int .i64 0, .int .i64 0] 34)) 34 #[.slice As0 (List.length x.1) cs0, .slice As1 (List.length x.2.1) cs1, .slice As2 (List.length x.2.2.1) cs2, .int .i64 x.2.2.2.1, .int .i64 x.2.2.2.2]; rwa [World.size_alloc, World.size_alloc] at this).below hb0 (by simp only [World.size_alloc]; omega)
  have kB_0_0 : w0.cell? ⟨w.heap.size, 0, none⟩ = some (.slice As0 (List.length x.1) cs0) := hB0.cell 0
  have fB_0_0 : w0.frozen? ⟨w.heap.size, 0, none⟩ = false := hB0.frozen 0
  have kB_0_1 : w0.cell? ⟨w.heap.size, 1, none⟩ = some (.slice As1 (List.length x.2.1) cs1) := hB0.cell 1
  have fB_0_1 : w0.frozen? ⟨w.heap.size, 1, none⟩ = false := hB0.frozen 1
  have kB_0_2 : w0.cell? ⟨w.heap.size, 2, none⟩ = some (.slice As2 (List.length x.2.2.1) cs2) := hB0.cell 2
  have fB_0_2 : w0.frozen? ⟨w.heap.size, 2, none⟩ = false := hB0.frozen 2
  have kB_0_3 : w0.cell? ⟨w.heap.size, 3, none⟩ = some (.int .i64 x.2.2.2.1) := hB0.cell 3
  have fB_0_3 : w0.frozen? ⟨w.heap.size, 3, none⟩ = false := hB0.frozen 3
  have kB_0_4 : w0.cell? ⟨w.heap.size, 4, none⟩ = some (.int .i64 x.2.2.2.2) := hB0.cell 4
  have fB_0_4 : w0.frozen? ⟨w.heap.size, 4, none⟩ = false := hB0.frozen 4
  have zB_0 : w.heap.size < w0.heap.size := hB0.lt
  have kR_0_0 : w0.cell? ⟨w.heap.size + 1, 0, none⟩ = some (.slice none 0 0) := hR0.cell 0
  have fR_0_0 : w0.frozen? ⟨w.heap.size + 1, 0, none⟩ = false := hR0.frozen 0
  have kR_0_1 : w0.cell? ⟨w.heap.size + 1, 1, none⟩ = some (.slice none 0 0) := hR0.cell 1
  have fR_0_1 : w0.frozen? ⟨w.heap.size + 1, 1, none⟩ = false := hR0.frozen 1
  have kR_0_2 : w0.cell? ⟨w.heap.size + 1, 2, none⟩ = some (.slice none 0 0) := hR0.cell 2
  have fR_0_2 : w0.frozen? ⟨w.heap.size + 1, 2, none⟩ = false := hR0.frozen 2
  have kR_0_3 : w0.cell? ⟨w.heap.size + 1, 3, none⟩ = some (.int .i64 0) := hR0.cell 3
  have fR_0_3 : w0.frozen? ⟨w.heap.size + 1, 3, none⟩ = false := hR0.frozen 3
  have kR_0_4 : w0.cell? ⟨w.heap.size + 1, 4, none⟩ = some (.int .i64 0) := hR0.cell 4
  have fR_0_4 : w0.frozen? ⟨w.heap.size + 1, 4, none⟩ = false := hR0.frozen 4
  have zR_0 : w.heap.size + 1 < w0.heap.size := hR0.lt
  have kO_0_0 : w0.cell? ⟨w.heap.size + 1 + 1, 0, none⟩ = some (.slice As0 (List.length x.1) cs0) := hO0.cell 0
  have fO_0_0 : w0.frozen? ⟨w.heap.size + 1 + 1, 0, none⟩ = false := hO0.frozen 0
  have kO_0_1 : w0.cell? ⟨w.heap.size + 1 + 1, 1, none⟩ = some (.slice As1 (List.length x.2.1) cs1) := hO0.cell 1
  have fO_0_1 : w0.frozen? ⟨w.heap.size + 1 + 1, 1, none⟩ = false := hO0.frozen 1
  have kO_0_2 : w0.cell? ⟨w.heap.size + 1 + 1, 2, none⟩ = some (.slice As2 (List.length x.2.2.1) cs2) := hO0.cell 2
  have fO_0_2 : w0.frozen? ⟨w.heap.size + 1 + 1, 2, none⟩ = false := hO0.frozen 2
  have kO_0_3 : w0.cell? ⟨w.heap.size + 1 + 1, 3, none⟩ = some (.int .i64 x.2.2.2.1) := hO0.cell 3
  have fO_0_3 : w0.frozen? ⟨w.heap.size + 1 + 1, 3, none⟩ = false := hO0.frozen 3
  have kO_0_4 : w0.cell? ⟨w.heap.size + 1 + 1, 4, none⟩ = some (.int .i64 x.2.2.2.2) := hO0.cell 4
  have fO_0_4 : w0.frozen? ⟨w.heap.size + 1 + 1, 4, none⟩ = false := hO0.frozen 4
  have zO_0 : w.heap.size + 1 + 1 < w0.heap.size := hO0.lt
  have HL0 : Hid (Row flatB ((w0.setCell ⟨w.heap.size + 1 + 1, 0, none⟩ (.slice A0 (List.length x.1) c0)).alloc (.cells #[] 5)) w0.heap.size 5 (.slice (some ⟨w0.heap.size, 0, none⟩) 0 0) []) := by
    have := Row.lit0 flatB (w0.setCell ⟨w.heap.size + 1 + 1, 0, none⟩ (.slice A0 (List.length x.1) c0)) 5 (Nat.le_refl _)
    simp only [World.size_setCell] at this
    exact Lib.hid this
  go_wp2_with (at_builtin; go_loud (refine wpList_append_row rfl _ _ 22 rfl flatB w0.heap.size 5 infoB rfl Tryz.underlying22 _ _ [] x.2.1 rfl rfl HL0.out (Ty.rd_below (bel_alloc (bel_set hw0 (by dsimp only; omega) _) _) sg1) ?_ ?_ ?_ ?_))
  case refine_1 => simp only [List.length_nil]; omega
  case refine_2 => simp only [List.length_nil]; unfold maxLen; omega
  case refine_3 => simp only [World.size_alloc, World.size_setCell]; omega
  intro v1 w1 hr1 hg1
  have hr1' : Row flatB w1 w0.heap.size 5 v1 x.2.1 := hr1
  have hb1 : Below (w0.setCell ⟨w.heap.size + 1 + 1, 0, none⟩ (.slice A0 (List.length x.1) c0)).heap.size (w0.setCell ⟨w.heap.size + 1 + 1, 0, none⟩ (.slice A0 (List.length x.1) c0)) w1 := bel_grown (bel_alloc (Below.refl _ _) _) (by simp only [World.size_alloc, World.size_setCell]; omega) hg1 (fun g hg => by simp [Value.ownBlock] at hg; simp only [World.size_setCell]; omega)
  have HRR := Lib.hid hr1'
  obtain ⟨A1, c1, fp1, rfl, how1, hfr1⟩ := hr1'.own (by have := hb1.size; simp only [World.size_setCell] at this; exact this)
  clear hr1 hr1' hg1 HL0
  have hz1 := hb1.size
  simp only [World.size_alloc, World.size_setCell] at hz1
  have hw1 : Below w.heap.size w w1 := bel_trans (by repeat' (first | (with_reducible exact Below.refl _ _) | (with_reducible assumption) | (with_reducible refine bel_set ?_ (by (try dsimp only); omega) _) | (with_reducible refine bel_alloc ?_ _) | (with_reducible refine bel_drewN ?_ _) | (with_reducible refine bel_drew ?_))) hb1
  clear kB_0_0 fB_0_0 kB_0_1 fB_0_1 kB_0_2 fB_0_2 kB_0_3 fB_0_3 kB_0_4 fB_0_4 kR_0_0 fR_0_0 kR_0_1 fR_0_1 kR_0_2 fR_0_2 kR_0_3 fR_0_3 kR_0_4 fR_0_4 kO_0_0 fO_0_0 kO_0_1 fO_0_1 kO_0_2 fO_0_2 kO_0_3 fO_0_3 kO_0_4 fO_0_4
  have hB1 : Blk w1 (w.heap.size) 34 #[.slice As0 (List.length x.1) cs0, .slice As1 (List.length x.2.1) cs1, .slice As2 (List.length x.2.2.1) cs2, .int .i64 x.2.2.2.1, .int .i64 x.2.2.2.2] := (hB0.far (by dsimp only; omega) (.slice A0 (List.length x.1) c0)).below hb1 (by simp only [World.size_setCell]; omega)
  have hR1 : Blk w1 (w.heap.size + 1) 34 #[.slice none 0 0, .slice none 0 0, .slice none 0 0, .int .i64 0, .int .i64 0] := (hR0.far (by dsimp only; omega) (.slice A0 (List.length x.1) c0)).below hb1 (by simp only [World.size_setCell]; omega)
  have hO1 : Blk w1 (w.heap.size + 1 + 1) 34 #[.slice A0 (List.length x.1) c0, .slice As1 (List.length x.2.1) cs1, .slice As2 (List.length x.2.2.1) cs2, .int .i64 x.2.2.2.1, .int .i64 x.2.2.2.2] := (hO0.set_ 0 (.slice A0 (List.length x.1) c0)).below hb1 (by simp only [World.size_setCell]; omega)
  have kB_1_0 : w1.cell? ⟨w.heap.size, 0, none⟩ = some (.slice As0 (List.length x.1) cs0) := hB1.cell 0
  have fB_1_0 : w1.frozen? ⟨w.heap.size, 0, none⟩ = false := hB1.frozen 0
  have kB_1_1 : w1.cell? ⟨w.heap.size, 1, none⟩ = some (.slice As1 (List.length x.2.1) cs1) := hB1.cell 1
  have fB_1_1 : w1.frozen? ⟨w.heap.size, 1, none⟩ = false := hB1.frozen 1
  have kB_1_2 : w1.cell? ⟨w.heap.size, 2, none⟩ = some (.slice As2 (List.length x.2.2.1) cs2) := hB1.cell 2
  have fB_1_2 : w1.frozen? ⟨w.heap.size, 2, none⟩ = false := hB1.frozen 2
  have kB_1_3 : w1.cell? ⟨w.heap.size, 3, none⟩ = some (.int .i64 x.2.2.2.1) := hB1.cell 3
  have fB_1_3 : w1.frozen? ⟨w.heap.size, 3, none⟩ = false := hB1.frozen 3
  have kB_1_4 : w1.cell? ⟨w.heap.size, 4, none⟩ = some (.int .i64 x.2.2.2.2) := hB1.cell 4
  have fB_1_4 : w1.frozen? ⟨w.heap.size, 4, none⟩ = false := hB1.frozen 4
  have zB_1 : w.heap.size < w1.heap.size := hB1.lt
  have kR_1_0 : w1.cell? ⟨w.heap.size + 1, 0, none⟩ = some (.slice none 0 0) := hR1.cell 0
  have fR_1_0 : w1.frozen? ⟨w.heap.size + 1, 0, none⟩ = false := hR1.frozen 0
  have kR_1_1 : w1.cell? ⟨w.heap.size + 1, 1, none⟩ = some (.slice none 0 0) := hR1.cell 1
  have fR_1_1 : w1.frozen? ⟨w.heap.size + 1, 1, none⟩ = false := hR1.frozen 1
  have kR_1_2 : w1.cell? ⟨w.heap.size + 1, 2, none⟩ = some (.slice none 0 0) := hR1.cell 2
  have fR_1_2 : w1.frozen? ⟨w.heap.size + 1, 2, none⟩ = false := hR1.frozen 2
  have kR_1_3 : w1.cell? ⟨w.heap.size + 1, 3, none⟩ = some (.int .i64 0) := hR1.cell 3
  have fR_1_3 : w1.frozen? ⟨w.heap.size + 1, 3, none⟩ = false := hR1.frozen 3
  have kR_1_4 : w1.cell? ⟨w.heap.size + 1, 4, none⟩ = some (.int .i64 0) := hR1.cell 4
  have fR_1_4 : w1.frozen? ⟨w.heap.size + 1, 4, none⟩ = false := hR1.frozen 4
  have zR_1 : w.heap.size + 1 < w1.heap.size := hR1.lt
  have kO_1_0 : w1.cell? ⟨w.heap.size + 1 + 1, 0, none⟩ = some (.slice A0 (List.length x.1) c0) := hO1.cell 0
  have fO_1_0 : w1.frozen? ⟨w.heap.size + 1 + 1, 0, none⟩ = false := hO1.frozen 0
  have kO_1_1 : w1.cell? ⟨w.heap.size + 1 + 1, 1, none⟩ = some (.slice As1 (List.length x.2.1) cs1) := hO1.cell 1
  have fO_1_1 : w1.frozen? ⟨w.heap.size + 1 + 1, 1, none⟩ = false := hO1.frozen 1
  have kO_1_2 : w1.cell? ⟨w.heap.size + 1 + 1, 2, none⟩ = some (.slice As2 (List.length x.2.2.1) cs2) := hO1.cell 2
  have fO_1_2 : w1.frozen? ⟨w.heap.size + 1 + 1, 2, none⟩ = false := hO1.frozen 2
  have kO_1_3 : w1.cell? ⟨w.heap.size + 1 + 1, 3, none⟩ = some (.int .i64 x.2.2.2.1) := hO1.cell 3
  have fO_1_3 : w1.frozen? ⟨w.heap.size + 1 + 1, 3, none⟩ = false := hO1.frozen 3
  have kO_1_4 : w1.cell? ⟨w.heap.size + 1 + 1, 4, none⟩ = some (.int .i64 x.2.2.2.2) := hO1.cell 4
  have fO_1_4 : w1.frozen? ⟨w.heap.size + 1 + 1, 4, none⟩ = false := hO1.frozen 4
  have zO_1 : w.heap.size + 1 + 1 < w1.heap.size := hO1.lt
  go_wp2_with fail
  refine (C_spec_l4Copy _ _ x.2.2.1 (Ty.rd_below (bel_set hw1 (by dsimp only; omega) _) sg2) (by omega)).mono ?_
  rintro e w2 ⟨cs2, fp2, rfl, how2, hfr2, hb2⟩
  obtain ⟨A2, c2, rfl⟩ := Ty.ow_slv how2
  have hz2 := hb2.size
  simp only [World.size_alloc, World.size_setCell] at hz2
  have hw2 : Below w.heap.size w w2 := bel_trans (by repeat' (first | (with_reducible exact Below.refl _ _) | (with_reducible assumption) | (with_reducible refine bel_set ?_ (by (try dsimp only); omega) _) | (with_reducible refine bel_alloc ?_ _) | (with_reducible refine bel_drewN ?_ _) | (with_reducible refine bel_drew ?_))) hb2
  clear kB_1_0 fB_1_0 kB_1_1 fB_1_1 kB_1_2 fB_1_2 kB_1_3 fB_1_3 kB_1_4 fB_1_4 kR_1_0 fR_1_0 kR_1_1 fR_1_1 kR_1_2 fR_1_2 kR_1_3 fR_1_3 kR_1_4 fR_1_4 kO_1_0 fO_1_0 kO_1_1 fO_1_1 kO_1_2 fO_1_2 kO_1_3 fO_1_3 kO_1_4 fO_1_4
  have hB2 : Blk w2 (w.heap.size) 34 #[.slice As0 (List.length x.1) cs0, .slice As1 (List.length x.2.1) cs1, .slice As2 (List.length x.2.2.1) cs2, .int .i64 x.2.2.2.1, .int .i64 x.2.2.2.2] := (hB1.far (by dsimp only; omega) (.slice A1 (List.length x.2.1) c1)).below hb2 (by simp only [World.size_setCell]; omega)
  have hR2 : Blk w2 (w.heap.size + 1) 34 #[.slice none 0 0, .slice none 0 0, .slice none 0 0, .int .i64 0, .int .i64 0] := (hR1.far (by dsimp only; omega) (.slice A1 (List.length x.2.1) c1)).below hb2 (by simp only [World.size_setCell]; omega)
  have hO2 : Blk w2 (w.heap.size + 1 + 1) 34 #[.slice A0 (List.length x.1) c0, .slice A1 (List.length x.2.1) c1, .slice As2 (List.length x.2.2.1) cs2, .int .i64 x.2.2.2.1, .int .i64 x.2.2.2.2] := (hO1.set_ 1 (.slice A1 (List.length x.2.1) c1)).below hb2 (by simp only [World.size_setCell]; omega)
  have kB_2_0 : w2.cell? ⟨w.heap.size, 0, none⟩ = some (.slice As0 (List.length x.1) cs0) := hB2.cell 0
  have fB_2_0 : w2.frozen? ⟨w.heap.size, 0, none⟩ = false := hB2.frozen 0
  have kB_2_1 : w2.cell? ⟨w.heap.size, 1, none⟩ = some (.slice As1 (List.length x.2.1) cs1) := hB2.cell 1
  have fB_2_1 : w2.frozen? ⟨w.heap.size, 1, none⟩ = false := hB2.frozen 1
  have kB_2_2 : w2.cell? ⟨w.heap.size, 2, none⟩ = some (.slice As2 (List.length x.2.2.1) cs2) := hB2.cell 2
  have fB_2_2 : w2.frozen? ⟨w.heap.size, 2, none⟩ = false := hB2.frozen 2
  have kB_2_3 : w2.cell? ⟨w.heap.size, 3, none⟩ = some (.int .i64 x.2.2.2.1) := hB2.cell 3
  have fB_2_3 : w2.frozen? ⟨w.heap.size, 3, none⟩ = false := hB2.frozen 3
  have kB_2_4 : w2.cell? ⟨w.heap.size, 4, none⟩ = some (.int .i64 x.2.2.2.2) := hB2.cell 4
  have fB_2_4 : w2.frozen? ⟨w.heap.size, 4, none⟩ = false := hB2.frozen 4
  have zB_2 : w.heap.size < w2.heap.size := hB2.lt
  have kR_2_0 : w2.cell? ⟨w.heap.size + 1, 0, none⟩ = some (.slice none 0 0) := hR2.cell 0
  have fR_2_0 : w2.frozen? ⟨w.heap.size + 1, 0, none⟩ = false := hR2.frozen 0
  have kR_2_1 : w2.cell? ⟨w.heap.size + 1, 1, none⟩ = some (.slice none 0 0) := hR2.cell 1
  have fR_2_1 : w2.frozen? ⟨w.heap.size + 1, 1, none⟩ = false := hR2.frozen 1
  have kR_2_2 : w2.cell? ⟨w.heap.size + 1, 2, none⟩ = some (.slice none 0 0) := hR2.cell 2
  have fR_2_2 : w2.frozen? ⟨w.heap.size + 1, 2, none⟩ = false := hR2.frozen 2
  have kR_2_3 : w2.cell? ⟨w.heap.size + 1, 3, none⟩ = some (.int .i64 0) := hR2.cell 3
  have fR_2_3 : w2.frozen? ⟨w.heap.size + 1, 3, none⟩ = false := hR2.frozen 3
  have kR_2_4 : w2.cell? ⟨w.heap.size + 1, 4, none⟩ = some (.int .i64 0) := hR2.cell 4
  have fR_2_4 : w2.frozen? ⟨w.heap.size + 1, 4, none⟩ = false := hR2.frozen 4
  have zR_2 : w.heap.size + 1 < w2.heap.size := hR2.lt
  have kO_2_0 : w2.cell? ⟨w.heap.size + 1 + 1, 0, none⟩ = some (.slice A0 (List.length x.1) c0) := hO2.cell 0
  have fO_2_0 : w2.frozen? ⟨w.heap.size + 1 + 1, 0, none⟩ = false := hO2.frozen 0
  have kO_2_1 : w2.cell? ⟨w.heap.size + 1 + 1, 1, none⟩ = some (.slice A1 (List.length x.2.1) c1) := hO2.cell 1
  have fO_2_1 : w2.frozen? ⟨w.heap.size + 1 + 1, 1, none⟩ = false := hO2.frozen 1
  have kO_2_2 : w2.cell? ⟨w.heap.size + 1 + 1, 2, none⟩ = some (.slice As2 (List.length x.2.2.1) cs2) := hO2.cell 2
  have fO_2_2 : w2.frozen? ⟨w.heap.size + 1 + 1, 2, none⟩ = false := hO2.frozen 2
  have kO_2_3 : w2.cell? ⟨w.heap.size + 1 + 1, 3, none⟩ = some (.int .i64 x.2.2.2.1) := hO2.cell 3
  have fO_2_3 : w2.frozen? ⟨w.heap.size + 1 + 1, 3, none⟩ = false := hO2.frozen 3
  have kO_2_4 : w2.cell? ⟨w.heap.size + 1 + 1, 4, none⟩ = some (.int .i64 x.2.2.2.2) := hO2.cell 4
  have fO_2_4 : w2.frozen? ⟨w.heap.size + 1 + 1, 4, none⟩ = false := hO2.frozen 4
  have zO_2 : w.heap.size + 1 + 1 < w2.heap.size := hO2.lt
  go_wp2
  refine bodyPost_ret (v := .agg #[.slice A0 (List.length x.1) c0, .slice A1 (List.length x.2.1) c1, .slice A2 (List.length x.2.2.1) c2, .int .i64 x.2.2.2.1, .int .i64 x.2.2.2.2]) (by simp [results, Tryz.results139, go_sem, kO_2_0, kO_2_1, kO_2_2, kO_2_3, kO_2_4, kR_2_0, kR_2_1, kR_2_2, kR_2_3, kR_2_4, fO_2_0, fO_2_1, fO_2_2, fO_2_3, fO_2_4, fR_2_0, fR_2_1, fR_2_2, fR_2_3, fR_2_4]) rfl ?_
  refine ⟨_, rfl, ⟨_, _, _, fp0, fp2, w0.heap.size, w1.heap.size, rfl, Ty.ow_keep (by intro b hb'; have hb'' := (hfr0).2 b hb'; (try simp only [World.size_alloc, World.size_setCell, size_drewN, World.size_drew] at hb''); repeat (first | (with_reducible rfl) | (rw [Below.heap_setCell _ _ _ _ (by (try dsimp only); omega)]) | (rw [Below.heap_alloc _ _ _ (by simp only [World.size_alloc, World.size_setCell]; omega)]) | (rw [hb1.block _ (by simp only [World.size_alloc, World.size_setCell, size_drewN, World.size_drew]; omega)]) | (rw [hb2.block _ (by simp only [World.size_alloc, World.size_setCell, size_drewN, World.size_drew]; omega)]))) how0, hfr0.mono (by (try simp only [World.size_alloc, World.size_setCell, size_drewN, World.size_drew]); omega) (Nat.le_refl _), (by repeat' (first | (with_reducible exact HRR.out) | (with_reducible refine row_setN ?_ (by (try dsimp only); omega) _) | (with_reducible refine Row.below ?_ hb2))), ?_, Ty.ow_keep (by intro b hb'; have hb'' := (hfr2).2 b hb'; (try simp only [World.size_alloc, World.size_setCell, size_drewN, World.size_drew] at hb''); repeat (first | (with_reducible rfl) | (rw [Below.heap_setCell _ _ _ _ (by (try dsimp only); omega)]) | (rw [Below.heap_alloc _ _ _ (by simp only [World.size_alloc, World.size_setCell]; omega)]))) how2, hfr2.mono (by (try simp only [World.size_alloc, World.size_setCell]); omega) (by (try simp only [World.size_alloc, World.size_setCell, size_drewN, World.size_drew]); omega), ⟨(by (try simp only [World.size_alloc, World.size_setCell, size_drewN, World.size_drew]); omega), (by (try simp only [World.size_alloc, World.size_setCell, size_drewN, World.size_drew]); omega), (by (try simp only [World.size_alloc, World.size_setCell, size_drewN, World.size_drew]); omega), (by (try simp only [World.size_alloc, World.size_setCell, size_drewN, World.size_drew]); omega)⟩, sg3, sg4⟩, ?_⟩
  · exact fun g hg => (HRR.out.block g hg).2
  · ((repeat' (first | (with_reducible exact Below.refl _ _) | (with_reducible assumption) | (with_reducible refine bel_set ?_ (by (try dsimp only); omega) _) | (with_reducible refine bel_alloc ?_ _) | (with_reducible refine bel_drewN ?_ _) | (with_reducible refine bel_drew ?_) | (with_reducible refine bel_trans ?_ (by assumption)))); done)
set_option maxRecDepth 100000 in
set_option maxHeartbeats 2000000 in
theorem C_spec_SignDataR (w : World) (a : Int) (cs : List Value) (x : tData.D) (h : tData.rd w cs x) (i0 : -9223372036854775808 ≤ a ∧ a ≤ 9223372036854775807) (s0 : Ty.bulk tData x ≤ 4000000) :
    Calls Tryz.prog 96 #[.int .i64 a, .agg cs.toArray] w (RetDataR 5 w (f_SignData a x)) := by
  have h' := h
  obtain ⟨As0, cs0, As1, cs1, As2, cs2, rfl, sg0, sg1, sg2, sg3, sg4⟩ := rd_Data h
  have HMB := Lib.hid (mac_bd a (f_SignedPortion x))
  have HLS := Lib.hid (signed_lenB s0)
  have HF := Lib.hid (show f_SignData a x = signed x (mac a (f_SignedPortion x)) from rfl)
  go_enter Tryz.func96, Tryz.ntmps96
  go_wp2_with fail
  refine (C_spec_l8CopyR _ _ x (Ty.rd_below (by repeat' (first | (with_reducible exact Below.refl _ _) | (with_reducible assumption) | (with_reducible refine bel_set ?_ (by (try dsimp only); omega) _) | (with_reducible refine bel_alloc ?_ _) | (with_reducible refine bel_drewN ?_ _) | (with_reducible refine bel_drew ?_))) h') (by omega)).mono ?_
  rintro e w0 ⟨cs0, rfl, hd0, hb0⟩
  obtain ⟨Ad0, cd0, Ad1, cd1, Ad2, cd2, rfl⟩ := hd0.form
  have HD0 := Lib.hid (hd0.mono (lo' := w.heap.size + 2) (by simp only [World.size_alloc]; omega) (Nat.le_refl _) (Nat.le_refl _))
  clear hd0
  have hz0 := hb0.size
  simp only [World.size_alloc] at hz0
  have hw0 : Below w.heap.size w w0 := bel_trans (by repeat' (first | (with_reducible exact Below.refl _ _) | (with_reducible assumption) | (with_reducible refine bel_set ?_ (by (try dsimp only); omega) _) | (with_reducible refine bel_alloc ?_ _) | (with_reducible refine bel_drewN ?_ _) | (with_reducible refine bel_drew ?_))) hb0
  have hB0 : Blk w0 (w.heap.size) 34 #[.slice As0 (List.length x.1) cs0, .slice As1 (List.length x.2.1) cs1, .slice As2 (List.length x.2.2.1) cs2, .int .i64 x.2.2.2.1, .int .i64 x.2.2.2.2] := ((Blk.new w 34 #[.slice As0 (List.length x.1) cs0, .slice As1 (List.length x.2.1) cs1, .slice As2 (List.length x.2.2.1) cs2, .int .i64 x.2.2.2.1, .int .i64 x.2.2.2.2]).alloc _).below hb0 (by simp only [World.size_alloc]; omega)
  have hR0 : Blk w0 (w.heap.size + 1) 34 #[.slice none 0 0, .slice none 0 0, .slice none 0 0, .int .i64 0, .int .i64 0] := (show Blk ((w.alloc (.cells #[.slice As0 (List.length x.1) cs0, .slice As1 (List.length x.2.1) cs1, .slice As2 (List.length x.2.2.1) cs2, .int .i64 x.2.2.2.1, .int .i64 x.2.2.2.2] 34)).alloc (.cells #[.slice none 0 0, .slice none 0 0, .slice none 0 0, .int .i64 0, .int .i64 0] 34)) (w.heap.size + 1) 34 #[.slice none 0 0, .slice none 0 0, .slice none 0 0, .int .i64 0, .int .i64 0] from by have := Blk.new (w.alloc (.cells #[.slice As0 (List.length x.1) cs0, .slice As1 (List.length x.2.1) cs1, .slice As2 (List.length x.2.2.1) cs2, .int .i64 x.2.2.2.1, .int .i64 x.2.2.2.2] 34)) 34 #[.slice none 0 0, .slice none 0 0, .slice none 0 0, .int .i64 0, .int .i64 0]; rwa [World.size_alloc] at this).below hb0 (by simp only [World.size_alloc]; omega)
  have kB_0_0 : w0.cell? ⟨w.heap.size, 0, none⟩ = some (.slice As0 (List.length x.1) cs0) := hB0.cell 0
  have kB_0_1 : w0.cell? ⟨w.heap.size, 1, none⟩ = some (.slice As1 (List.length x.2.1) cs1) := hB0.cell 1
  have kB_0_2 : w0.cell? ⟨w.heap.size, 2, none⟩ = some (.slice As2 (List.length x.2.2.1) cs2) := hB0.cell 2
  have kB_0_3 : w0.cell? ⟨w.heap.size, 3, none⟩ = some (.int .i64 x.2.2.2.1) := hB0.cell 3
  have kB_0_4 : w0.cell? ⟨w.heap.size, 4, none⟩ = some (.int .i64 x.2.2.2.2) := hB0.cell 4
  have zB_0 : w.heap.size < w0.heap.size := hB0.lt
  go_wp2_with fail
  refine (C_spec_SignedPortionB _ _ x (Ty.rd_below (bel_alloc hw0 _) h') s0).mono ?_
  rintro e w1 ⟨v1, rfl, hr1, hb1⟩
  have hz1 := hb1.size
  simp only [World.size_alloc] at hz1
  have hw1 : Below w.heap.size w w1 := bel_trans (bel_alloc hw0 _) hb1
  have HR1 := Lib.hid (hr1.rd hb1.size)
  clear hr1
  clear kB_0_0 kB_0_1 kB_0_2 kB_0_3 kB_0_4
  have hR1 : Blk w1 (w.heap.size + 1) 34 #[.slice none 0 0, .slice none 0 0, .slice none 0 0, .int .i64 0, .int .i64 0] := (hR0.alloc _).below hb1 (by simp only [World.size_alloc]; omega)
  have hO1 : Blk w1 w0.heap.size 34 #[.slice Ad0 (List.length x.1) cd0, .slice Ad1 (List.length x.2.1) cd1, .slice Ad2 (List.length x.2.2.1) cd2, .int .i64 x.2.2.2.1, .int .i64 x.2.2.2.2] := (Blk.new w0 34 #[.slice Ad0 (List.length x.1) cd0, .slice Ad1 (List.length x.2.1) cd1, .slice Ad2 (List.length x.2.2.1) cd2, .int .i64 x.2.2.2.1, .int .i64 x.2.2.2.2]).below hb1 (by simp only [World.size_alloc]; omega)
  go_wp2_with fail
  refine (C_spec_ComputeMAC _ _ a (f_SignedPortion x) i0 HR1.out (Nat.le_trans HLS.out (by decide))).mono ?_
  rintro e w2 ⟨rfl, hb2⟩
  have hz2 := hb2.size
  have hw2 : Below w.heap.size w w2 := bel_trans hw1 hb2
  have hR2 : Blk w2 (w.heap.size + 1) 34 #[.slice none 0 0, .slice none 0 0, .slice none 0 0, .int .i64 0, .int .i64 0] := hR1.below hb2 (by omega)
  have hO2 : Blk w2 w0.heap.size 34 #[.slice Ad0 (List.length x.1) cd0, .slice Ad1 (List.length x.2.1) cd1, .slice Ad2 (List.length x.2.2.1) cd2, .int .i64 x.2.2.2.1, .int .i64 x.2.2.2.2] := hO1.below hb2 (by omega)
  have kR_2_0 : w2.cell? ⟨w.heap.size + 1, 0, none⟩ = some (.slice none 0 0) := hR2.cell 0
  have fR_2_0 : w2.frozen? ⟨w.heap.size + 1, 0, none⟩ = false := hR2.frozen 0
  have kR_2_1 : w2.cell? ⟨w.heap.size + 1, 1, none⟩ = some (.slice none 0 0) := hR2.cell 1
  have fR_2_1 : w2.frozen? ⟨w.heap.size + 1, 1, none⟩ = false := hR2.frozen 1
  have kR_2_2 : w2.cell? ⟨w.heap.size + 1, 2, none⟩ = some (.slice none 0 0) := hR2.cell 2
  have fR_2_2 : w2.frozen? ⟨w.heap.size + 1, 2, none⟩ = false := hR2.frozen 2
  have kR_2_3 : w2.cell? ⟨w.heap.size + 1, 3, none⟩ = some (.int .i64 0) := hR2.cell 3
  have fR_2_3 : w2.frozen? ⟨w.heap.size + 1, 3, none⟩ = false := hR2.frozen 3
  have kR_2_4 : w2.cell? ⟨w.heap.size + 1, 4, none⟩ = some (.int .i64 0) := hR2.cell 4
  have fR_2_4 : w2.frozen? ⟨w.heap.size + 1, 4, none⟩ = false := hR2.frozen 4
  have zR_2 : w.heap.size + 1 < w2.heap.size := hR2.lt
  have kO_2_0 : w2.cell? ⟨w0.heap.size, 0, none⟩ = some (.slice Ad0 (List.length x.1) cd0) := hO2.cell 0
  have fO_2_0 : w2.frozen? ⟨w0.heap.size, 0, none⟩ = false := hO2.frozen 0
  have kO_2_1 : w2.cell? ⟨w0.heap.size, 1, none⟩ = some (.slice Ad1 (List.length x.2.1) cd1) := hO2.cell 1
  have fO_2_1 : w2.frozen? ⟨w0.heap.size, 1, none⟩ = false := hO2.frozen 1
  have kO_2_2 : w2.cell? ⟨w0.heap.size, 2, none⟩ = some (.slice Ad2 (List.length x.2.2.1) cd2) := hO2.cell 2
  have fO_2_2 : w2.frozen? ⟨w0.heap.size, 2, none⟩ = false := hO2.frozen 2
  have kO_2_3 : w2.cell? ⟨w0.heap.size, 3, none⟩ = some (.int .i64 x.2.2.2.1) := hO2.cell 3
  have fO_2_3 : w2.frozen? ⟨w0.heap.size, 3, none⟩ = false := hO2.frozen 3
  have kO_2_4 : w2.cell? ⟨w0.heap.size, 4, none⟩ = some (.int .i64 x.2.2.2.2) := hO2.cell 4
  have fO_2_4 : w2.frozen? ⟨w0.heap.size, 4, none⟩ = false := hO2.frozen 4
  have zO_2 : w0.heap.size < w2.heap.size := hO2.lt
  go_wp2
  refine bodyPost_ret (v := .agg #[.slice Ad0 (List.length x.1) cd0, .slice Ad1 (List.length x.2.1) cd1, .slice Ad2 (List.length x.2.2.1) cd2, .int .i64 x.2.2.2.1, .int .i64 (mac a (f_SignedPortion x))]) (by simp [results, Tryz.results96, go_sem, kR_2_0, fR_2_0, kR_2_1, fR_2_1, kR_2_2, fR_2_2, kR_2_3, fR_2_3, kR_2_4, fR_2_4, kO_2_0, fO_2_0, kO_2_1, fO_2_1, kO_2_2, fO_2_2, kO_2_3, fO_2_3, kO_2_4, fO_2_4]) rfl ?_
  rw [HF.out]
  refine ⟨_, rfl, DataR.mono (lo := w.heap.size + 2) (hi := w0.heap.size) (DataR.signed_ (a := x.2.2.2.1) (b := x.2.2.2.2) HMB.out (by repeat' (first | (with_reducible exact HD0.out) | (with_reducible refine DataR.set ?_ (by (try dsimp only); (try simp only [World.size_alloc]); omega) _) | (with_reducible refine DataR.alloc ?_ _) | (with_reducible refine DataR.below ?_ hb2) | (with_reducible refine DataR.below ?_ hb1)))) (by omega) (by (try simp only [World.size_alloc, World.size_setCell, size_drewN, World.size_drew]); omega) (Nat.le_refl _), ?_⟩
  ((repeat' (first | (with_reducible exact Below.refl _ _) | (with_reducible assumption) | (with_reducible refine bel_set ?_ (by (try dsimp only); omega) _) | (with_reducible refine bel_alloc ?_ _) | (with_reducible refine bel_drewN ?_ _) | (with_reducible refine bel_drew ?_) | (with_reducible refine bel_trans ?_ (by assumption)))); done)
end Go.Proofs.YtldgbnlcnlfmeaaGreat
