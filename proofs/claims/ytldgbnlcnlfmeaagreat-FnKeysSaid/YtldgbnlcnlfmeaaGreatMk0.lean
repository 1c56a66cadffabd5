/- Texts of this claim, merged by a program: Base Opn Row Stp Mkb Drw Cur Str Cuw Pure Hlp Nb Sp0 Psp Nam. -/
import Derived.WalkKit
import Derived.WalkSpells
import Derived.Lib.Hide
import Derived.Deep.QuietTactic
import Derived.BigQuiet
import Derived.ProofKit
import Derived.OpenShut
import Derived.ChangeOld
import Derived.Deep.Slices
import Derived.OwnWalk
import Derived.ArgAppend
import Derived.Laws.OwnMore
import Derived.Deep.RegionHeld3
import Derived.Maps.AppendAt
import Derived.Test.YtldgbnlcnlfmeaaGreatRows
import Derived.Laws.BitsLemmas
import Derived.StillTailTactics
import Derived.WalkLawsBesides
/- The common words of the proofs: how data read in memory (Ty, rd), what a call owns (ow), and small lemmas. No program in sight. -/
namespace Go.Proofs.YtldgbnlcnlfmeaaGreat
open Go.RowKit
set_option linter.unusedVariables false
set_option linter.unusedSimpArgs false

/-- The shapes of data that occur: integers, bytes, bools, strings, slices, and the fields of a struct one behind the other. -/
inductive Ty where
  | int | byte | bool | str
  | sl (e : Ty)
  | pr (a b : Ty)

@[reducible] def Ty.D : Ty → Type
  | .int => Int
  | .byte => UInt8
  | .bool => Bool
  | .str => List UInt8
  | .sl e => List e.D
  | .pr a b => a.D × b.D

/-- How many cells a value takes. -/
def Ty.sz : Ty → Nat
  | .pr a b => a.sz + b.sz
  | _ => 1

def rdInt (cs : List Value) (n : Int) : Prop := cs = [.int .i64 n] ∧ -9223372036854775808 ≤ n ∧ n ≤ 9223372036854775807
def rdByte (cs : List Value) (n : UInt8) : Prop := cs = [.int .u8 (n.toNat : Int)]
def rdBool (cs : List Value) (b : Bool) : Prop := cs = [.bool b]
/-- A string's value out of its bytes. -/
abbrev vS (s : List UInt8) : Value := .string ⟨s.toArray⟩
def rdStr (cs : List Value) (s : List UInt8) : Prop := cs = [vS s] ∧ s.length ≤ 9223372036854775807
def rdSl {α : Type} (w : World) (sz : Nat) (rd : List Value → α → Prop) (cs : List Value) (x : List α) : Prop :=
  ∃ A c, cs = [.slice A x.length c] ∧ x.length ≤ c ∧ (c ≤ maxLen ∧ (A = none → c = 0)) ∧ x.length ≤ 9223372036854775807 ∧
    (0 < x.length → ∃ b o, A = some ⟨b, o, none⟩ ∧
      ∀ i (h : i < x.length), ∃ ds : List Value, ds.length = sz ∧ (∀ j, j < sz → w.cell? ⟨b, o + i * sz + j, none⟩ = ds[j]?) ∧ rd ds x[i])
/-- The cells read as the datum. -/
def Ty.rd (w : World) : (t : Ty) → List Value → t.D → Prop
  | .int, cs, x => rdInt cs x
  | .byte, cs, x => rdByte cs x
  | .bool, cs, x => rdBool cs x
  | .str, cs, x => rdStr cs x
  | .sl e, cs, x => rdSl w e.sz (fun ds d => e.rd w ds d) cs x
  | .pr a b, cs, x => ∃ c1 c2, cs = c1 ++ c2 ∧ a.rd w c1 x.1 ∧ b.rd w c2 x.2

def owSl {α : Type} (w : World) (sz : Nat) (ow : List Value → α → List Nat → Prop) (cs : List Value) (x : List α) (fp : List Nat) : Prop :=
  ∃ A c, cs = [.slice A x.length c] ∧ x.length ≤ c ∧ (c ≤ maxLen ∧ (A = none → c = 0)) ∧ x.length ≤ 9223372036854775807 ∧
    ((x.length = 0 ∧ fp = []) ∨
     (0 < x.length ∧ ∃ b o, ∃ fs : Nat → List Nat, A = some ⟨b, o, none⟩ ∧ fp = b :: (List.range x.length).flatMap fs ∧
      ∀ i (h : i < x.length), ∃ ds : List Value, ds.length = sz ∧
        (∀ j, j < sz → w.cell? ⟨b, o + i * sz + j, none⟩ = ds[j]? ∧ w.frozen? ⟨b, o + i * sz + j, none⟩ = false) ∧ ow ds x[i] (fs i)))
/-- The cells read as the datum, in the blocks fp alone, each block of one slice, every cell free to be written. -/
def Ty.ow (w : World) : (t : Ty) → List Value → t.D → List Nat → Prop
  | .sl e, cs, x, fp => owSl w e.sz (fun ds d f => e.ow w ds d f) cs x fp
  | .pr a b, cs, x, fp => ∃ c1 c2 f1 f2, cs = c1 ++ c2 ∧ fp = f1 ++ f2 ∧ a.ow w c1 x.1 f1 ∧ b.ow w c2 x.2 f2
  | .int, cs, x, fp => rdInt cs x ∧ fp = []
  | .byte, cs, x, fp => rdByte cs x ∧ fp = []
  | .bool, cs, x, fp => rdBool cs x ∧ fp = []
  | .str, cs, x, fp => rdStr cs x ∧ fp = []

theorem Ty.rd_len {w : World} : ∀ {t : Ty} {cs : List Value} {x : t.D}, t.rd w cs x → cs.length = t.sz
  | .int, _, _, h => by rw [h.1]; rfl
  | .byte, _, _, h => by rw [show _ = _ from h]; rfl
  | .bool, _, _, h => by rw [show _ = _ from h]; rfl
  | .str, _, _, h => by rw [h.1]; rfl
  | .sl _, _, _, ⟨_, _, h, _⟩ => by rw [h]; rfl
  | .pr a b, _, _, ⟨c1, c2, h, h1, h2⟩ => by
    rw [h, List.length_append, Ty.rd_len h1, Ty.rd_len h2]; rfl

/-- What is read stays as long as the blocks that were there stay. -/
theorem Ty.rd_below {w w' : World} (hb : Below w.heap.size w w') : ∀ {t : Ty} {cs : List Value} {x : t.D}, t.rd w cs x → t.rd w' cs x
  | .int, _, _, h => h
  | .byte, _, _, h => h
  | .bool, _, _, h => h
  | .str, _, _, h => h
  | .sl e, _, _, ⟨A, c, h1, h2, h3, h4, h5⟩ => ⟨A, c, h1, h2, h3, h4, fun hn => by
      obtain ⟨b, o, hA, hc⟩ := h5 hn
      refine ⟨b, o, hA, fun i hi => ?_⟩
      obtain ⟨ds, hl, hcell, hr⟩ := hc i hi
      refine ⟨ds, hl, fun j hj => ?_, Ty.rd_below hb hr⟩
      have hv : w.cell? ⟨b, o + i * e.sz + j, none⟩ = some (ds[j]'(by omega)) := by rw [hcell j hj]; exact List.getElem?_eq_getElem (by omega)
      have hlt : b < w.heap.size := World.block_lt_of_cell? w _ hv
      rw [hb.cell (p := ⟨b, o + i * e.sz + j, none⟩) hlt]
      exact hcell j hj⟩
  | .pr _ _, _, _, ⟨c1, c2, h, h1, h2⟩ => ⟨c1, c2, h, Ty.rd_below hb h1, Ty.rd_below hb h2⟩

/-- The blocks fp lie between two numbers, and each stands once. -/
def FrI (lo hi : Nat) (fp : List Nat) : Prop := fp.Nodup ∧ ∀ b ∈ fp, lo ≤ b ∧ b < hi
theorem FrI.nil (lo hi : Nat) : FrI lo hi [] := ⟨List.nodup_nil, fun b hb => absurd hb (by simp)⟩
theorem FrI.mono {lo hi lo' hi' : Nat} {fp : List Nat} (h : FrI lo hi fp) (h1 : lo' ≤ lo) (h2 : hi ≤ hi') : FrI lo' hi' fp := ⟨h.1, fun b hb => by have := h.2 b hb; omega⟩
theorem FrI.app {lo m m' hi : Nat} {f g : List Nat} (h1 : FrI lo m f) (h2 : FrI m' hi g) (h12 : m ≤ m') (hlo : lo ≤ m') (hhi : m ≤ hi) : FrI lo hi (f ++ g) := by
  refine ⟨List.nodup_append.2 ⟨h1.1, h2.1, fun a ha b hb => ?_⟩, fun b hb => ?_⟩
  · have := h1.2 a ha; have := h2.2 b hb; omega
  · rcases List.mem_append.1 hb with hb | hb
    · have := h1.2 b hb; omega
    · have := h2.2 b hb; omega
/-- The blocks fp are new behind w, and each stands once. -/
abbrev Fr (w w' : World) (fp : List Nat) : Prop := FrI w.heap.size w'.heap.size fp
theorem Fr.mk_ {w w' : World} {n g : Nat} {l : List Nat} (h1 : w.heap.size ≤ g) (h2 : g < w'.heap.size) (hl : l.Nodup) (h3 : ∀ b ∈ l, g < b ∧ b < w'.heap.size) : Fr w w' (if n = 0 then [] else g :: l) := by
  by_cases h0 : n = 0
  · rw [if_pos h0]; exact ⟨List.nodup_nil, fun b hb => absurd hb (by simp)⟩
  · rw [if_neg h0]
    refine ⟨List.nodup_cons.2 ⟨fun hg => absurd (h3 g hg).1 (Nat.lt_irrefl g), hl⟩, fun b hb => ?_⟩
    rcases List.mem_cons.1 hb with rfl | hb
    · exact ⟨h1, h2⟩
    · have := h3 b hb; omega
/-- A call that hands back a slice in memory of its own. -/
def RetSl (w : World) (t : Ty) (x : List t.D) (e : Ending) (w' : World) : Prop :=
  ∃ A c fp, e = .returned (.slice A x.length c) ∧ (Ty.sl t).ow w' [.slice A x.length c] x fp ∧ Fr w w' fp ∧ Below w.heap.size w w'
/-- A call that hands back a struct, whose slices lie in memory of its own. -/
def RetAgg (w : World) (t : Ty) (x : t.D) (e : Ending) (w' : World) : Prop :=
  ∃ cs fp, e = .returned (.agg cs.toArray) ∧ t.ow w' cs x fp ∧ Fr w w' fp ∧ Below w.heap.size w w'

/-- Block g is known whole, none of it frozen. -/
def Blk (w : World) (g : Nat) (t : TypeId) (cs : Array Value) : Prop := w.heap[g]? = some (.cells cs t (0, 0))
section
variable {w w' : World} {g : Nat} {t : TypeId} {cs : Array Value}
theorem Blk.lt (h : Blk w g t cs) : g < w.heap.size := by
  rcases Nat.lt_or_ge g w.heap.size with hlt | hge
  · exact hlt
  · unfold Blk at h; rw [Array.getElem?_eq_none hge] at h; cases h
theorem Blk.cell (h : Blk w g t cs) (i : Nat) : w.cell? ⟨g, i, none⟩ = cs[i]? := cell_of_row w g i cs t (0, 0) h
theorem Blk.frozen (h : Blk w g t cs) (i : Nat) : w.frozen? ⟨g, i, none⟩ = false := by
  unfold Blk at h
  simp [World.frozen?, h]
theorem Blk.new (w : World) (t : TypeId) (cs : Array Value) : Blk (w.alloc (.cells cs t)) w.heap.size t cs := heap_alloc_new w _
theorem cell_new (w : World) (t : TypeId) (cs : Array Value) (i : Nat) {g : Nat} (hg : g = w.heap.size) : (w.alloc (.cells cs t)).cell? ⟨g, i, none⟩ = cs[i]? := by
  subst hg; exact (Blk.new w t cs).cell i
theorem Blk.drew (h : Blk w g t cs) : Blk w.drew g t cs := h
theorem Blk.drewN (h : Blk w g t cs) (n : Nat) : Blk (w.drewN n) g t cs := h
theorem Blk.alloc (h : Blk w g t cs) (o : Obj) : Blk (w.alloc o) g t cs := (Below.heap_alloc w o g h.lt).trans h
theorem Blk.set_ (h : Blk w g t cs) (i : Nat) (u : Value) : Blk (w.setCell ⟨g, i, none⟩ u) g t (cs.setIfInBounds i u) := by
  unfold Blk at h ⊢
  simp [World.setCell, Array.getElem?_modify, h]
theorem Blk.far (h : Blk w g t cs) {p : Addr} (hp : g ≠ p.block) (u : Value) : Blk (w.setCell p u) g t cs := (Below.heap_setCell w p u g hp).trans h
theorem Blk.below {B : Nat} (h : Blk w g t cs) (hb : Below B w w') (hg : g < B) : Blk w' g t cs := (hb.block g hg).trans h
theorem Blk.grown {row : Option Nat} (h : Blk w g t cs) (hb : w.grownBy w' row) (hg : some g ≠ row) : Blk w' g t cs := (hb.block g h.lt hg).trans h
end

/-- A slice in a block of its own. -/
theorem Ty.ow_mk {w : World} {e : Ty} {g o c : Nat} {t : TypeId} {cur : Array Value} {xs : List e.D} (fs : Nat → List Nat) (hb : Blk w g t cur) (hc : xs.length ≤ c) (hm : c ≤ maxLen) (hn : xs.length ≤ 9223372036854775807)
    (h : ∀ i (hi : i < xs.length), ∃ ds : List Value, ds.length = e.sz ∧ (∀ j, j < e.sz → cur[o + i * e.sz + j]? = ds[j]?) ∧ e.ow w ds xs[i] (fs i)) :
    (Ty.sl e).ow w [.slice (some ⟨g, o, none⟩) xs.length c] xs (if xs.length = 0 then [] else g :: (List.range xs.length).flatMap fs) := by
  refine ⟨_, c, rfl, hc, ⟨hm, fun h => by cases h⟩, hn, ?_⟩
  by_cases h0 : xs.length = 0
  · left
    exact ⟨h0, if_pos h0⟩
  · right
    refine ⟨by show 0 < xs.length; omega, g, o, fs, rfl, if_neg h0, fun i hi => ?_⟩
    obtain ⟨ds, h1, h2, h3⟩ := h i hi
    exact ⟨ds, h1, fun j hj => ⟨(hb.cell _).trans (h2 j hj), hb.frozen _⟩, h3⟩

/-- A call that only computes a bool. -/
def RetB (w : World) (b : Bool) (e : Ending) (w' : World) : Prop := e = .returned (.bool b) ∧ Below w.heap.size w w'
/-- A call that only computes an int. -/
def RetI (w : World) (n : Int) (e : Ending) (w' : World) : Prop := e = .returned (.int .i64 n) ∧ Below w.heap.size w w'

theorem size_drewN (w : World) (n : Nat) : (w.drewN n).heap.size = w.heap.size := rfl
theorem bel_alloc {w w1 : World} (h : Below w.heap.size w w1) (o : Obj) : Below w.heap.size w (w1.alloc o) := h.alloc h.size o
theorem bel_trans {w w1 w2 : World} (h : Below w.heap.size w w1) (k : Below w1.heap.size w1 w2) : Below w.heap.size w w2 := h.trans (k.mono h.size)
theorem bel_set {w w1 : World} (h : Below w.heap.size w w1) {p : Addr} (hp : w.heap.size ≤ p.block) (u : Value) : Below w.heap.size w (w1.setCell p u) := h.setCell hp u
theorem bel_drewN {w w1 : World} (h : Below w.heap.size w w1) (n : Nat) : Below w.heap.size w (w1.drewN n) := ⟨h.os, h.tape, h.output, h.size, h.block⟩
theorem bel_drew {w w1 : World} (h : Below w.heap.size w w1) : Below w.heap.size w w1.drew := ⟨h.os, h.tape, h.output, h.size, h.block⟩
/-- Behind a call that leaves the old blocks: old cells and old marks read as before. -/
theorem bcell {W w1 : World} (hb : Below W.heap.size W w1) : (∀ b o, b < W.heap.size → w1.cell? ⟨b, o, none⟩ = W.cell? ⟨b, o, none⟩) ∧ (∀ b o, b < W.heap.size → w1.frozen? ⟨b, o, none⟩ = W.frozen? ⟨b, o, none⟩) :=
  ⟨fun b o h => hb.cell (p := ⟨b, o, none⟩) h, fun b o h => hb.frozen (p := ⟨b, o, none⟩) h⟩

theorem cell_of_heap {w w' : World} {b : Nat} (h : w'.heap[b]? = w.heap[b]?) (o : Nat) : w'.cell? ⟨b, o, none⟩ = w.cell? ⟨b, o, none⟩ := World.cell?_of_block (w := w) (a := ⟨b, o, none⟩) h
theorem frozen_of_heap {w w' : World} {b : Nat} (h : w'.heap[b]? = w.heap[b]?) (o : Nat) : w'.frozen? ⟨b, o, none⟩ = w.frozen? ⟨b, o, none⟩ := World.frozen?_of_block (w := w) (a := ⟨b, o, none⟩) h
/-- What is owned stays as long as its blocks stay. -/
theorem Ty.ow_keep {w w' : World} : ∀ {t : Ty} {cs : List Value} {x : t.D} {fp : List Nat}, (∀ b ∈ fp, w'.heap[b]? = w.heap[b]?) → t.ow w cs x fp → t.ow w' cs x fp
  | .int, _, _, _, _, h => h
  | .byte, _, _, _, _, h => h
  | .bool, _, _, _, _, h => h
  | .str, _, _, _, _, h => h
  | .sl e, _, _, _, hk, ⟨A, c, h1, h2, h3, h4, h5⟩ => ⟨A, c, h1, h2, h3, h4, by
      rcases h5 with h5 | ⟨h0, b, o, fs, hA, hfp, hc⟩
      · exact .inl h5
      · refine .inr ⟨h0, b, o, fs, hA, hfp, fun i hi => ?_⟩
        obtain ⟨ds, hl, hcell, hr⟩ := hc i hi
        have hb := hk b (by rw [hfp]; exact List.mem_cons_self)
        refine ⟨ds, hl, fun j hj => ?_, Ty.ow_keep (fun b' hb' => hk b' ?_) hr⟩
        · rw [cell_of_heap hb, frozen_of_heap hb]; exact hcell j hj
        · rw [hfp]; exact List.mem_cons_of_mem _ (List.mem_flatMap.2 ⟨i, List.mem_range.2 hi, hb'⟩)⟩
  | .pr _ _, _, _, _, hk, ⟨c1, c2, f1, f2, h, hf, h1, h2⟩ => ⟨c1, c2, f1, f2, h, hf,
      Ty.ow_keep (fun b hb => hk b (by rw [hf]; exact List.mem_append_left _ hb)) h1, Ty.ow_keep (fun b hb => hk b (by rw [hf]; exact List.mem_append_right _ hb)) h2⟩
theorem Ty.ow_rd {w : World} : ∀ {t : Ty} {cs : List Value} {x : t.D} {fp : List Nat}, t.ow w cs x fp → t.rd w cs x
  | .int, _, _, _, h => h.1
  | .byte, _, _, _, h => h.1
  | .bool, _, _, _, h => h.1
  | .str, _, _, _, h => h.1
  | .sl e, _, _, _, ⟨A, c, h1, h2, h3, h4, h5⟩ => ⟨A, c, h1, h2, h3, h4, fun hn => by
      rcases h5 with h5 | ⟨_, b, o, fs, hA, hfp, hc⟩
      · exact absurd h5.1 (by omega)
      · refine ⟨b, o, hA, fun i hi => ?_⟩
        obtain ⟨ds, hl, hcell, hr⟩ := hc i hi
        exact ⟨ds, hl, fun j hj => (hcell j hj).1, Ty.ow_rd hr⟩⟩
  | .pr _ _, _, _, _, ⟨c1, c2, f1, f2, h, hf, h1, h2⟩ => ⟨c1, c2, h, Ty.ow_rd h1, Ty.ow_rd h2⟩

def bulkSl {α : Type} (f : α → Nat) (x : List α) : Nat := x.length + (x.map f).sum
/-- How much a datum holds: the lengths of its slices and strings. -/
def Ty.bulk : (t : Ty) → t.D → Nat
  | .str, x => List.length x
  | .sl e, x => bulkSl (fun d => e.bulk d) x
  | .pr a b, x => a.bulk x.1 + b.bulk x.2
  | .int, _ => 0
  | .byte, _ => 0
  | .bool, _ => 0
theorem Ty.bulk_flat {e : Ty} (h : ∀ d : e.D, e.bulk d = 0) (x : List e.D) : Ty.bulk (.sl e) x = x.length := by
  have : (x.map (fun d => e.bulk d)).sum = 0 := by
    induction x with
    | nil => rfl
    | cons a l ih => rw [List.map_cons, List.sum_cons, h, ih]
  show x.length + (x.map (fun d => e.bulk d)).sum = x.length
  omega
theorem Ty.bulk_len {e : Ty} {x : List e.D} {n : Nat} (h : Ty.bulk (.sl e) x ≤ n) : x.length ≤ n := Nat.le_trans (Nat.le_add_right _ _) h
theorem le_sum_mem {l : List Nat} {a : Nat} (h : a ∈ l) : a ≤ l.sum := by
  induction l with
  | nil => cases h
  | cons b l ih =>
    rw [List.sum_cons]
    rcases List.mem_cons.1 h with rfl | h
    · omega
    · have := ih h; omega
theorem Ty.bulk_at {e : Ty} {x : List e.D} {k n : Nat} (h : Ty.bulk (.sl e) x ≤ n) (hk : k < x.length) : e.bulk x[k] ≤ n := by
  have h1 : e.bulk x[k] ≤ (x.map e.bulk).sum := le_sum_mem (List.mem_map.2 ⟨x[k], List.getElem_mem hk, rfl⟩)
  have h2 : x.length + (x.map e.bulk).sum ≤ n := h
  omega
theorem Ty.ow_len {w : World} : ∀ {t : Ty} {cs : List Value} {x : t.D} {fp : List Nat}, t.ow w cs x fp → cs.length = t.sz
  | .int, _, _, _, h => by rw [h.1.1]; rfl
  | .byte, _, _, _, h => by rw [show _ = _ from h.1]; rfl
  | .bool, _, _, _, h => by rw [show _ = _ from h.1]; rfl
  | .str, _, _, _, h => by rw [h.1.1]; rfl
  | .sl _, _, _, _, ⟨_, _, h, _⟩ => by rw [h]; rfl
  | .pr a b, _, _, _, ⟨c1, c2, _, _, h, _, h1, h2⟩ => by
    rw [h, List.length_append, Ty.ow_len h1, Ty.ow_len h2]; rfl
theorem Ty.ow_slv {w : World} {e : Ty} {cs : List Value} {x : List e.D} {fp : List Nat} (h : (Ty.sl e).ow w cs x fp) : ∃ A c, cs = [.slice A x.length c] := by
  obtain ⟨A, c, h1, _⟩ := h
  exact ⟨A, c, h1⟩

/-- The k-th element of a slice. -/
theorem Ty.rd_at {w : World} {e : Ty} {A : Option Addr} {n c k : Nat} {xs : List e.D} (h : (Ty.sl e).rd w [.slice A n c] xs) (hk : k < xs.length) :
    ∃ b o ds, A = some ⟨b, o, none⟩ ∧ ds.length = e.sz ∧ (∀ j, j < e.sz → w.cell? ⟨b, o + k * e.sz + j, none⟩ = ds[j]?) ∧ e.rd w ds xs[k] := by
  obtain ⟨A', c', h1, h2, h3, h4, h5⟩ := h
  obtain ⟨b, o, hA, hc⟩ := h5 (by show 0 < xs.length; omega)
  obtain ⟨ds, g1, g2, g3⟩ := hc k hk
  injection h1 with h1 _
  injection h1 with h1 _ _
  exact ⟨b, o, ds, h1.trans hA, g1, g2, g3⟩

theorem Ty.rd_str_at {w : World} {A : Option Addr} {n c k : Nat} {xs : List (List UInt8)} (h : (Ty.sl .str).rd w [.slice A n c] xs) (hk : k < xs.length) :
    ∃ b o, A = some ⟨b, o, none⟩ ∧ w.cell? ⟨b, o + k, none⟩ = some (vS xs[k]) ∧ xs[k].length ≤ 9223372036854775807 := by
  obtain ⟨b, o, ds, hA, hl, hc, hr⟩ := Ty.rd_at h hk
  have := hc 0 (by decide)
  rw [hr.1] at this
  exact ⟨b, o, hA, by simpa [Ty.sz] using this, hr.2⟩

theorem Ty.rd_byte_at {w : World} {A : Option Addr} {n c k : Nat} {xs : List UInt8} (h : (Ty.sl .byte).rd w [.slice A n c] xs) (hk : k < xs.length) :
    ∃ b o, A = some ⟨b, o, none⟩ ∧ w.cell? ⟨b, o + k, none⟩ = some (.int .u8 (xs[k].toNat : Int)) := by
  obtain ⟨b, o, ds, hA, hl, hc, hr⟩ := Ty.rd_at h hk
  have := hc 0 (by decide)
  rw [show ds = _ from hr] at this
  exact ⟨b, o, hA, by simpa [Ty.sz] using this⟩
theorem Ty.rd_int_at {w : World} {A : Option Addr} {n c k : Nat} {xs : List Int} (h : (Ty.sl .int).rd w [.slice A n c] xs) (hk : k < xs.length) :
    ∃ b o, A = some ⟨b, o, none⟩ ∧ w.cell? ⟨b, o + k, none⟩ = some (.int .i64 xs[k]) ∧ -9223372036854775808 ≤ xs[k] ∧ xs[k] ≤ 9223372036854775807 := by
  obtain ⟨b, o, ds, hA, hl, hc, hr⟩ := Ty.rd_at h hk
  have := hc 0 (by decide)
  rw [hr.1] at this
  exact ⟨b, o, hA, by simpa [Ty.sz] using this, hr.2⟩

theorem Ty.rd_slv {w : World} {e : Ty} {cs : List Value} {x : List e.D} (h : (Ty.sl e).rd w cs x) : ∃ A c, cs = [.slice A x.length c] := by
  obtain ⟨A, c, h1, _⟩ := h
  exact ⟨A, c, h1⟩
/-- A slice value, and its length. -/
theorem Ty.rd_sl {w : World} {e : Ty} {v : Value} {xs : List e.D} (h : (Ty.sl e).rd w [v] xs) :
    ∃ A c, v = .slice A xs.length c ∧ xs.length ≤ c ∧ c ≤ maxLen ∧ xs.length ≤ 9223372036854775807 := by
  obtain ⟨A, c, h1, h2, h3, h4, _⟩ := h
  injection h1 with h1 _
  exact ⟨A, c, h1, h2, h3.1, h4⟩
theorem Ty.rd_nil {w : World} {e : Ty} {n c : Nat} {xs : List e.D} (h : (Ty.sl e).rd w [.slice none n c] xs) : c = 0 ∧ xs = [] := by
  obtain ⟨A', c', h1, h2, h3, _⟩ := h
  injection h1 with h1 _
  injection h1 with h1 h5 h6
  subst h1; subst h6
  have h7 := h3.2 rfl
  exact ⟨h7, List.eq_nil_of_length_eq_zero (by show xs.length = 0; omega)⟩
/-- A row of cells written from an offset on. -/
def setList (cur : Array Value) (off : Nat) : List Value → Array Value
  | [] => cur
  | d :: ds => setList (cur.setIfInBounds off d) (off + 1) ds
theorem size_setList : ∀ (ds : List Value) (cur : Array Value) (off : Nat), (setList cur off ds).size = cur.size
  | [], _, _ => rfl
  | d :: ds, cur, off => by rw [setList, size_setList ds]; simp
theorem setList_lt : ∀ (ds : List Value) (cur : Array Value) (off m : Nat), m < off → (setList cur off ds)[m]? = cur[m]?
  | [], _, _, _, _ => rfl
  | d :: ds, cur, off, m, h => by
    rw [setList, setList_lt ds _ _ _ (by omega), Array.getElem?_setIfInBounds_ne (by omega)]
theorem setList_at : ∀ (ds : List Value) (cur : Array Value) (off j : Nat), off + ds.length ≤ cur.size → j < ds.length → (setList cur off ds)[off + j]? = ds[j]?
  | [], _, _, _, _, h => absurd h (by simp)
  | d :: ds, cur, off, 0, h, _ => by
    rw [setList, setList_lt ds _ _ _ (by omega)]
    simp only [List.length_cons] at h
    simp only [Nat.add_zero]
    rw [Array.getElem?_setIfInBounds_self_of_lt (by omega)]
    rfl
  | d :: ds, cur, off, j + 1, h, hj => by
    simp only [List.length_cons] at h hj
    rw [setList, show off + (j + 1) = off + 1 + j by omega, setList_at ds _ _ _ (by simp; omega) (by omega)]
    rfl
/-- The first k elements of x stand in block g, each in memory of its own behind g. -/
def ToInv (e : Ty) (g : Nat) (t : TypeId) (x : List e.D) (k : Nat) (wr : World) : Prop :=
  ∃ (cur : Array Value) (fs : Nat → List Nat), Blk wr g t cur ∧ cur.size = x.length * e.sz ∧
    (∀ i (hi : i < x.length), i < k → ∃ ds : List Value, ds.length = e.sz ∧ (∀ j, j < e.sz → cur[0 + i * e.sz + j]? = ds[j]?) ∧ e.ow wr ds x[i] (fs i)) ∧
    FrI (g + 1) wr.heap.size ((List.range k).flatMap fs)
theorem ToInv.zero {e : Ty} {g : Nat} {t : TypeId} {x : List e.D} {wr : World} {cur : Array Value} (hb : Blk wr g t cur) (hs : cur.size = x.length * e.sz) : ToInv e g t x 0 wr :=
  ⟨cur, fun _ => [], hb, hs, fun i _ h => absurd h (by omega), FrI.nil _ _⟩
theorem ToInv.blk {e : Ty} {g : Nat} {t : TypeId} {x : List e.D} {k : Nat} {wr : World} (h : ToInv e g t x k wr) : ∃ cur, Blk wr g t cur ∧ cur.size = x.length * e.sz := by
  obtain ⟨cur, fs, h1, h2, _⟩ := h
  exact ⟨cur, h1, h2⟩
theorem ToInv.step {e : Ty} {g : Nat} {t : TypeId} {x : List e.D} {k : Nat} {wr w1 w2 : World} {ds : List Value} {fp : List Nat} (h : ToInv e g t x k wr) (hk : k < x.length)
    (hb : Below wr.heap.size wr w1) (how : e.ow w1 ds x[k] fp) (hfr : Fr wr w1 fp) (h2 : ∀ b, b ≠ g → w2.heap[b]? = w1.heap[b]?) (hsz : w2.heap.size = w1.heap.size)
    (hblk : ∀ cur, Blk w1 g t cur → Blk w2 g t (setList cur (k * e.sz) ds)) : ToInv e g t x (k + 1) w2 := by
  obtain ⟨cur, fs, h1, h3, h4, h5⟩ := h
  have hg : g < wr.heap.size := h1.lt
  have hl : ds.length = e.sz := Ty.ow_len how
  have hle : (k + 1) * e.sz ≤ x.length * e.sz := Nat.mul_le_mul_right _ hk
  rw [Nat.succ_mul] at hle
  have hlow : ∀ b ∈ (List.range k).flatMap fs, w2.heap[b]? = wr.heap[b]? := fun b hb' => by
    have := h5.2 b hb'
    rw [h2 b (by omega), hb.block b (by omega)]
  have hfs : (List.range (k + 1)).flatMap (fun i => if i = k then fp else fs i) = (List.range k).flatMap fs ++ fp := by
    have e1 : (List.range k).flatMap (fun i => if i = k then fp else fs i) = (List.range k).flatMap fs := by
      rw [List.flatMap_def, List.flatMap_def]
      congr 1
      exact List.map_congr_left (fun i hi => if_neg (by have := List.mem_range.1 hi; omega))
    rw [List.range_succ, List.flatMap_append, e1]
    simp
  refine ⟨_, fun i => if i = k then fp else fs i, hblk cur (h1.below hb hg), by rw [size_setList]; exact h3, fun i hi hik => ?_, ?_⟩
  · by_cases he : i = k
    · subst he
      refine ⟨ds, hl, fun j hj => ?_, ?_⟩
      · rw [Nat.zero_add]
        exact setList_at ds cur _ j (by omega) (by omega)
      · dsimp only
        rw [if_pos rfl]
        exact Ty.ow_keep (fun b hb' => h2 b (by have := hfr.2 b hb'; omega)) how
    · obtain ⟨ds', g1, g2, g3⟩ := h4 i hi (by omega)
      have hlt : (i + 1) * e.sz ≤ k * e.sz := Nat.mul_le_mul_right _ (by omega)
      rw [Nat.succ_mul] at hlt
      refine ⟨ds', g1, fun j hj => ?_, ?_⟩
      · rw [setList_lt _ _ _ _ (by omega)]
        exact g2 j hj
      · dsimp only
        rw [if_neg he]
        exact Ty.ow_keep (fun b hb' => hlow b (List.mem_flatMap.2 ⟨i, List.mem_range.2 (by omega), hb'⟩)) g3
  · rw [hfs, hsz]
    exact FrI.app h5 hfr (Nat.le_refl _) (by omega) hb.size
theorem ToInv.done {e : Ty} {g c : Nat} {t : TypeId} {x : List e.D} {w wr : World} (h : ToInv e g t x x.length wr) (hg : w.heap.size ≤ g) (hc : x.length ≤ c) (hm : c ≤ maxLen) (hn : x.length ≤ 9223372036854775807) :
    ∃ fp, (Ty.sl e).ow wr [.slice (some ⟨g, 0, none⟩) x.length c] x fp ∧ Fr w wr fp := by
  obtain ⟨cur, fs, h1, h3, h4, h5⟩ := h
  exact ⟨_, Ty.ow_mk fs h1 hc hm hn (fun i hi => h4 i hi hi), Fr.mk_ hg h1.lt h5.1 (fun b hb => by have := h5.2 b hb; omega)⟩
theorem sum_take_succ {α : Type} (f : α → Nat) (xs : List α) {k : Nat} (h : k < xs.length) : ((xs.take (k + 1)).map f).sum = ((xs.take k).map f).sum + f xs[k] := by
  rw [List.take_succ_eq_append_getElem h, List.map_append, List.sum_append]; simp
theorem ret_bool {a b : Bool} (h : a = b) : Ending.returned (.bool a) = .returned (.bool b) := by rw [h]
theorem ret_int {k : IntKind} {a b : Int} (h : a = b) : Ending.returned (.int k a) = .returned (.int k b) := by rw [h]
end Go.Proofs.YtldgbnlcnlfmeaaGreat

/- From a reading of the claim's form to the reading of the proofs (Ty.rd): for integers, bytes, strings, slices, structs. No program in sight. -/
namespace Go.Proofs.YtldgbnlcnlfmeaaGreat
open Go.ChangeShapes Go.WideShapes Go.RowKit
set_option linter.unusedVariables false
set_option linter.unusedSimpArgs false
section
variable {H : Type} {enc : TypeId × Value → H} {P : Program} {w : World} {base : Nat} {spare : Nat → Bool} {held : Bool}

theorem collect {α : Type} (n : Nat) (p : Nat → α → Prop) (h : ∀ i, i < n → ∃ d, p i d) : ∃ xs : List α, xs.length = n ∧ ∀ i (h1 : i < xs.length), p i xs[i] := by
  induction n with
  | zero => exact ⟨[], rfl, fun i h1 => absurd h1 (by simp)⟩
  | succ k ih =>
    obtain ⟨xs, h1, h2⟩ := ih (fun i hi' => h i (by omega))
    obtain ⟨d, hd⟩ := h k (by omega)
    refine ⟨xs ++ [d], by simp [h1], fun i hi' => ?_⟩
    by_cases hik : i < xs.length
    · rw [List.getElem_append_left hik]; exact h2 i hik
    · obtain rfl : i = k := by simp at hi'; omega
      rw [List.getElem_append_right (by omega)]
      simpa using hd
/-- Whatever reads at type t reads as data of the shape e. -/
def Opens (enc : TypeId × Value → H) (P : Program) (w : World) (base : Nat) (spare : Nat → Bool) (held : Bool) (t : TypeId) (e : Ty) : Prop :=
  ∀ (fuel : Nat) (cs : List Value) (x : DataW H × List MemPlace), DataW.trod enc P w base spare held fuel t cs = some x → ∃ d, e.rd w cs d

theorem opens_byte {t : TypeId} (ht : P.underlying t = some (.int .u8)) : Opens enc P w base spare held t .byte := by
  intro fuel cs x h
  obtain ⟨n, rfl, _, hw⟩ := DataW.trod_int ht h
  have := bounds_u8 hw
  refine ⟨UInt8.ofNat n.toNat, ?_⟩
  show _ = _
  congr 2
  rw [UInt8.toNat_ofNat']
  omega

theorem opens_sl {t u : TypeId} {e : Ty} (ht : P.underlying t = some (.slice u)) (hc : P.cellsOf u = e.sz) (hz : 0 < e.sz) (h : Opens enc P w base spare held u e) : Opens enc P w base spare held t (.sl e) := by
  intro fuel cs x hx
  rcases Deep.open_slice ht hx with ⟨rfl, _⟩ | ⟨a, len, cap, m, n, D, Pl, rfl, hb, hl, hm, hmm, _, hi⟩
  · exact ⟨[], none, 0, rfl, Nat.le_refl _, ⟨Nat.zero_le _, fun _ => rfl⟩, Nat.zero_le _, fun h => absurd h (by simp)⟩
  · have hlm : len ≤ m := by rw [hmm]; split <;> omega
    have hel : ∀ i, i < len → ∃ (ds : List Value) (d : e.D), ds.length = e.sz ∧ (∀ j, j < e.sz → w.cell? ((a.add (i * e.sz)).add j) = ds[j]?) ∧ e.rd w ds d := by
      intro i hi'
      obtain ⟨cs', hc', ht'⟩ := hi i (by omega)
      rw [hc] at hc'
      obtain ⟨_, hcl, hat⟩ := World.cells?_some hc'
      obtain ⟨d, hd⟩ := h _ _ _ ht'
      exact ⟨cs', d, hcl, hat, hd⟩
    have hall := collect len (fun i d => ∃ ds : List Value, ds.length = e.sz ∧ (∀ j, j < e.sz → w.cell? ((a.add (i * e.sz)).add j) = ds[j]?) ∧ e.rd w ds d)
      (fun i hi' => by obtain ⟨ds, d, g⟩ := hel i hi'; exact ⟨d, ds, g⟩)
    obtain ⟨xs, hxl, hxs⟩ := hall
    subst hxl
    refine ⟨xs, some a, cap, rfl, hl, ⟨hm, fun h => by cases h⟩, by unfold maxLen at hm; omega, fun hpos => ?_⟩
    obtain ⟨b, off, spot⟩ := a
    have hspot : spot = none := by
      obtain ⟨ds, g1, g2, _⟩ := hxs 0 hpos
      have h0 := g2 0 hz
      have hv : w.cell? ⟨b, off, spot⟩ = some (ds[0]'(by omega)) := by
        have : w.cell? ⟨b, off, spot⟩ = ds[0]? := by simpa [Addr.add] using h0
        rw [this]; exact List.getElem?_eq_getElem (by omega)
      exact World.cell?_spot hv
    subst hspot
    refine ⟨b, off, rfl, fun i hi' => ?_⟩
    obtain ⟨ds, g1, g2, g3⟩ := hxs i hi'
    refine ⟨ds, g1, fun j hj => ?_, g3⟩
    have := g2 j hj
    rwa [Addr.add_lit, Addr.add_lit] at this

end
end Go.Proofs.YtldgbnlcnlfmeaaGreat

/- Slices that a call builds by append: rows of flat elements. No program in sight. -/
namespace Go.Proofs.YtldgbnlcnlfmeaaGreat
open Go.RowKit
set_option linter.unusedVariables false
set_option linter.unusedSimpArgs false

/-- A shape of one cell that holds no memory of its own. -/
structure Flat (e : Ty) where
  enc : e.D → Value
  ok : e.D → Prop
  sz : e.sz = 1
  one : ∀ d, (enc d).oneCell' = true
  rd : ∀ (w : World) (cs : List Value) (d : e.D), e.rd w cs d ↔ cs = [enc d] ∧ ok d
  ow : ∀ (w : World) (cs : List Value) (d : e.D) (f : List Nat), e.ow w cs d f ↔ (cs = [enc d] ∧ ok d) ∧ f = []
def flatI : Flat .int := ⟨fun n => .int .i64 n, fun n => -9223372036854775808 ≤ n ∧ n ≤ 9223372036854775807, rfl, fun _ => rfl, fun _ _ _ => Iff.rfl, fun _ _ _ _ => Iff.rfl⟩
def flatB : Flat .byte := ⟨fun n => .int .u8 (n.toNat : Int), fun _ => True, rfl, fun _ => rfl, fun _ _ _ => by simp [Ty.rd, rdByte], fun _ _ _ _ => by simp [Ty.ow, rdByte]⟩
def flatS : Flat .str := ⟨fun s => vS s, fun s => s.length ≤ 9223372036854775807, rfl, fun _ => rfl, fun _ _ _ => Iff.rfl, fun _ _ _ _ => Iff.rfl⟩

/-- A row that the call owns: appended to at will. -/
def Row {e : Ty} (F : Flat e) (w : World) (base : Nat) (te : TypeId) (v : Value) (x : List e.D) : Prop :=
  w.ownsRow base te 1 v x.length (x.map F.enc) ∧ ∀ d ∈ x, F.ok d
theorem Row.nil {e : Ty} (F : Flat e) (w : World) (base : Nat) (te : TypeId) : Row F w base te (.slice none 0 0) [] := ⟨World.ownsRow_nil w base te 1, fun d hd => absurd hd (by simp)⟩
theorem Row.le {e : Ty} {F : Flat e} {w : World} {base : Nat} {te : TypeId} {v : Value} {x : List e.D} (h : Row F w base te v x) : x.length ≤ maxLen := by
  rcases h.1.2 with ⟨_, hn⟩ | ⟨g, cap, cur, _, _, _, h1, h2, _⟩
  · rw [hn]; exact Nat.zero_le _
  · exact Nat.le_trans h1 h2
theorem Row.form {e : Ty} {F : Flat e} {w : World} {base : Nat} {te : TypeId} {v : Value} {x : List e.D} (h : Row F w base te v x) : ∃ A c, v = .slice A x.length c := by
  rcases h.1.2 with ⟨rfl, hn⟩ | ⟨g, cap, cur, rfl, _⟩
  · exact ⟨none, 0, by rw [hn]⟩
  · exact ⟨_, _, rfl⟩
theorem Row.cells {e : Ty} {F : Flat e} {w : World} {base : Nat} {te : TypeId} {g : Nat} {c : Nat} {x : List e.D} (h : Row F w base te (.slice (some ⟨g, 0, none⟩) x.length c) x) (i : Nat) (hi : i < x.length) :
    w.cell? ⟨g, 0 + i * 1 + 0, none⟩ = some (F.enc x[i]) ∧ w.frozen? ⟨g, 0 + i * 1 + 0, none⟩ = false := by
  rcases h.1.2 with ⟨h', _⟩ | ⟨g', cap', cur, h', _, hg, h3, _, _, htake⟩
  · simp at h'
  · simp only [Value.slice.injEq, Option.some.injEq, Addr.mk.injEq, and_true, true_and] at h'
    obtain ⟨rfl, rfl⟩ := h'
    refine ⟨?_, ?_⟩
    · have := h.1.cellAt i (by omega)
      rw [show 0 + i * 1 + 0 = i from by omega, this]
      simp [hi]
    · exact Blk.frozen (t := te) (cs := cur) hg _
theorem Row.own {e : Ty} {F : Flat e} {w : World} {base : Nat} {te : TypeId} {v : Value} {x : List e.D} (h : Row F w base te v x) (hb : base ≤ w.heap.size) :
    ∃ A c fp, v = .slice A x.length c ∧ (Ty.sl e).ow w [v] x fp ∧ FrI base w.heap.size fp := by
  have hl := h.le
  unfold maxLen at hl
  rcases h.1.2 with ⟨rfl, hn⟩ | ⟨g, cap, cur, rfl, hbg, hg, h3, h4, _, htake⟩
  · have hx : x = [] := List.eq_nil_of_length_eq_zero hn
    subst hx
    exact ⟨none, 0, [], rfl, ⟨none, 0, rfl, by simp, ⟨by unfold maxLen; omega, fun _ => rfl⟩, by simp, .inl ⟨rfl, rfl⟩⟩, FrI.nil _ _⟩
  · have hlt : g < w.heap.size := Blk.lt (t := te) (cs := cur) hg
    by_cases h0 : x.length = 0
    · exact ⟨_, _, [], rfl, ⟨_, _, rfl, h3, ⟨h4, fun h => by cases h⟩, by omega, .inl ⟨h0, rfl⟩⟩, FrI.nil _ _⟩
    · refine ⟨_, _, g :: (List.range x.length).flatMap fun _ => [], rfl, ⟨_, _, rfl, h3, ⟨h4, fun h => by cases h⟩, by omega, .inr ⟨by show 0 < x.length; omega, g, 0, fun _ => [], rfl, rfl, fun i hi => ?_⟩⟩, ?_⟩
      · refine ⟨[F.enc x[i]], by rw [F.sz]; rfl, fun j hj => ?_, (F.ow _ _ _ _).2 ⟨⟨rfl, h.2 _ (List.getElem_mem hi)⟩, rfl⟩⟩
        rw [F.sz] at hj ⊢
        obtain rfl : j = 0 := by omega
        exact h.cells i hi
      · rw [List.flatMap_eq_nil_iff.2 (fun _ _ => rfl)]
        refine ⟨by simp, fun b hb' => ?_⟩
        simp at hb'
        omega
theorem Row.rd {e : Ty} {F : Flat e} {w : World} {base : Nat} {te : TypeId} {v : Value} {x : List e.D} (h : Row F w base te v x) (hb : base ≤ w.heap.size) : (Ty.sl e).rd w [v] x := by
  obtain ⟨A, c, fp, _, how, _⟩ := h.own hb
  exact Ty.ow_rd how
theorem Row.block {e : Ty} {F : Flat e} {w : World} {base : Nat} {te : TypeId} {v : Value} {x : List e.D} (h : Row F w base te v x) : ∀ g, v.ownBlock = some g → base ≤ g ∧ g < w.heap.size := by
  intro g hg
  rcases h.1.2 with ⟨rfl, _⟩ | ⟨g', cap', cur, rfl, hbg, hgg, _⟩
  · simp [Value.ownBlock] at hg
  · simp [Value.ownBlock] at hg
    subst hg
    exact ⟨hbg, Blk.lt (t := te) (cs := cur) hgg⟩
/-- What lay below stays, and the row with it. -/
theorem Row.below {e : Ty} {F : Flat e} {w w' : World} {base : Nat} {te : TypeId} {v : Value} {x : List e.D} (h : Row F w base te v x) (hb : Below w.heap.size w w') : Row F w' base te v x := by
  refine ⟨?_, h.2⟩
  refine ⟨h.1.1, ?_⟩
  rcases h.1.2 with hn | ⟨g, cap, cur, rfl, hbg, hgg, rest⟩
  · exact .inl hn
  · exact .inr ⟨g, cap, cur, rfl, hbg, (hb.block g (Blk.lt (t := te) (cs := cur) hgg)).trans hgg, rest⟩
theorem Row.mono {e : Ty} {F : Flat e} {w : World} {base base' : Nat} {te : TypeId} {v : Value} {x : List e.D} (h : Row F w base te v x) (hb : base' ≤ base) : Row F w base' te v x := by
  refine ⟨⟨h.1.1, ?_⟩, h.2⟩
  rcases h.1.2 with hn | ⟨g, cap, cur, rfl, hbg, hgg, rest⟩
  · exact .inl hn
  · exact .inr ⟨g, cap, cur, rfl, Nat.le_trans hb hbg, hgg, rest⟩
/-- A write to the row alone leaves what lay below the base. -/
theorem bel_grown {w0 w w' : World} {B : Nat} {row : Option Nat} (h : Below B w0 w) (hB : B ≤ w.heap.size) (hg : w.grownBy w' row) (hrow : ∀ g, row = some g → B ≤ g) : Below B w0 w' :=
  ⟨hg.os.trans h.os, hg.tape.trans h.tape, hg.output.trans h.output, Nat.le_trans h.size hg.size, fun k hk => (hg.block k (by omega) (fun e => by have := hrow k e.symm; omega)).trans (h.block k hk)⟩
/-- The literal of one element. -/
theorem Row.lit1 {e : Ty} (F : Flat e) (w : World) (te : TypeId) (d : e.D) (hd : F.ok d) {base : Nat} (hb : base ≤ w.heap.size) : Row F (w.alloc (.cells #[F.enc d] te)) base te (.slice (some ⟨w.heap.size, 0, none⟩) 1 1) [d] :=
  ⟨World.ownsRow_lit w #[F.enc d] 1 hb (by unfold maxLen; omega) (by simp), fun a ha => by simp at ha; subst ha; exact hd⟩
theorem Row.lit0 {e : Ty} (F : Flat e) (w : World) (te : TypeId) {base : Nat} (hb : base ≤ w.heap.size) : Row F (w.alloc (.cells #[] te)) base te (.slice (some ⟨w.heap.size, 0, none⟩) 0 0) [] :=
  ⟨World.ownsRow_lit w #[] 0 hb (by unfold maxLen; omega) (by simp), fun a ha => absurd ha (by simp)⟩
theorem Row.lit2 {e : Ty} (F : Flat e) (w : World) (te : TypeId) (d d2 : e.D) (hd : F.ok d) (hd2 : F.ok d2) {base : Nat} (hb : base ≤ w.heap.size) : Row F (w.alloc (.cells #[F.enc d, F.enc d2] te)) base te (.slice (some ⟨w.heap.size, 0, none⟩) 2 2) [d, d2] :=
  ⟨World.ownsRow_lit w #[F.enc d, F.enc d2] 2 hb (by unfold maxLen; omega) (by simp), fun a ha => by simp at ha; rcases ha with rfl | rfl <;> assumption⟩

/-- Nothing is appended. -/
theorem run_append_zero {P : Program} {w : World} (base : Nat) (t ty e : TypeId) (i : TypeInfo) (size : Nat) (ht : P.underlying t = some (.slice e)) (hi : P.info? e = some i)
    (v : Value) (n : Nat) (xs : List Value) (hown : w.ownsRow base e size v n xs) (A : Option Addr) (c : Nat) :
    (Builtin.append_ #[t, t] ty #[v, .slice A 0 c]).run P w = .ok v w := by
  rcases hown.2 with ⟨rfl, rfl⟩ | ⟨g, cap, cur, rfl, _, _, hnc, _⟩ <;> cases A <;>
    simp [Builtin.append_, run_underlying ht, sizeOf, typeInfo, hi, Builtin.lenOf, Builtin.firstCells, storeCells, loadCells, loadCellsFrom, *]

theorem run_append_row {P : Program} {w : World} {e : Ty} (F : Flat e) (base : Nat) (t ty te : TypeId) {z : Value} {by_ : Nat} (hinfo : (P.info? te).map (fun i => (i.zero, i.size, i.bytes)) = some (some z, 1, by_)) (hz1 : z.cells.size = 1) (ht : P.underlying t = some (.slice te))
    (v u : Value) (x y : List e.D) (hown : Row F w base te v x) (hy : (Ty.sl e).rd w [u] y) (hbytes : (x.length + y.length) * by_ ≤ 140737488355328) (hlen : x.length + y.length ≤ maxLen) (hbase : base ≤ w.heap.size) :
    ∃ v' w', (Builtin.append_ #[t, t] ty #[v, u]).run P w = .ok v' w' ∧ Row F w' base te v' (x ++ y) ∧ w.grownBy w' v.ownBlock := by
  obtain ⟨i, hi, hzz⟩ := Option.map_eq_some_iff.1 hinfo
  simp only [Prod.mk.injEq] at hzz
  obtain ⟨hz, hsz, hby⟩ := hzz
  obtain ⟨A, c, hu, hyc, hcm, hyn, hcell⟩ := hy
  injection hu with hu _
  subst hu
  have hok : ∀ d ∈ y, F.ok d := by
    intro d hd
    obtain ⟨j, hj, rfl⟩ := List.getElem_of_mem hd
    obtain ⟨b, o, _, h3⟩ := hcell (by omega)
    obtain ⟨ds, _, _, h4⟩ := h3 j hj
    exact ((F.rd _ _ _).1 h4).2
  by_cases h0 : y.length = 0
  · have hy0 : y = [] := List.eq_nil_of_length_eq_zero h0
    subst hy0
    exact ⟨v, w, run_append_zero base t ty te i 1 ht hi v _ _ hown.1 A c, by rw [List.append_nil]; exact hown, World.grownBy.refl _ _⟩
  · obtain ⟨b, o, rfl, h3⟩ := hcell (by omega)
    obtain ⟨v', w', hr, h2, h4, _⟩ := run_append_own (P := P) w base t ty te i z 1 by_ ht hi hz hsz hby hz1 (by omega) v x.length (x.map F.enc) hown.1 ⟨b, o, none⟩ y.length c (y.map F.enc) (by simp)
      (fun j u hj => by
        have hj' : j < y.length := by
          have := (List.getElem?_eq_some_iff.1 hj).1
          simpa using this
        obtain ⟨ds, h5, h6, h7⟩ := h3 j hj'
        have h8 := ((F.rd _ _ _).1 h7).1
        have h9 := h6 0 (by rw [F.sz]; omega)
        rw [F.sz, h8, show o + j * 1 + 0 = o + j from by omega] at h9
        rw [Addr.add_lit, h9]
        simp [hj'] at hj ⊢
        exact hj)
      (fun u hu => by obtain ⟨d, _, rfl⟩ := List.mem_map.1 hu; exact F.one d) hlen hbytes hbase
    refine ⟨v', w', hr, ⟨?_, fun d hd => ?_⟩, h4⟩
    · rw [List.length_append, List.map_append]; exact h2
    · rcases List.mem_append.1 hd with h | h
      · exact hown.2 d h
      · exact hok d h

/-- 'append(out, y...)' for the walk. -/
theorem wpList_append_row {P : Program} {w : World} {ops : Array Oper} {rest : List Oper} {o : Oper} {a : Act} {Q : Exit → Act → World → Prop} (hgd : o.guard = none) (s xo : Operand) (t : TypeId)
    (ho : o.op = .call { callee := .builtin .append, args := #[s, xo], argTypes := #[t, t] }) {e : Ty} (F : Flat e) (base : Nat) (te : TypeId) {z : Value} {by_ : Nat}
    (hinfo : (P.info? te).map (fun i => (i.zero, i.size, i.bytes)) = some (some z, 1, by_)) (hz1 : z.cells.size = 1) (ht : P.underlying t = some (.slice te))
    (v u : Value) (x y : List e.D) (hs : a.eval s = v) (hx : a.eval xo = u) (hown : Row F w base te v x) (hy : (Ty.sl e).rd w [u] y) (hbytes : (x.length + y.length) * by_ ≤ 140737488355328) (hlen : x.length + y.length ≤ maxLen) (hbase : base ≤ w.heap.size)
    (h : ∀ v' w', Row F w' base te v' (x ++ y) → w.grownBy w' v.ownBlock → wpList P ops Q rest (a.put o.dst v') w') : wpList P ops Q (o :: rest) a w := by
  obtain ⟨v', w', hr, h2, h3⟩ := run_append_row (P := P) F base t o.type te hinfo hz1 ht v u x y hown hy hbytes hlen hbase
  refine wpList_plain hgd fun K hK => ?_
  unfold Oper.wp execOp
  simp only [ho, resolve, invoke, builtin, Sem.run_bind, Sem.run_pure, Result.andThen_ok, List.map_toArray, List.map_cons, List.map_nil, hs, hx, hr]
  exact hK _ _ (h v' w' h2 h3)

/-- A call that hands back a row of its own. -/
def RetRow {e : Ty} (F : Flat e) (w : World) (te : TypeId) (x : List e.D) (r : Ending) (w' : World) : Prop :=
  ∃ v, r = .returned v ∧ Row F w' w.heap.size te v x ∧ Below w.heap.size w w'
theorem RetRow.sl {e : Ty} {F : Flat e} {w : World} {te : TypeId} {x : List e.D} {r : Ending} {w' : World} (h : RetRow F w te x r w') : RetSl w e x r w' := by
  obtain ⟨v, rfl, hr, hb⟩ := h
  obtain ⟨A, c, fp, rfl, how, hfr⟩ := hr.own hb.size
  exact ⟨A, c, fp, rfl, how, hfr, hb⟩
end Go.Proofs.YtldgbnlcnlfmeaaGreat

/- 'append(out, y...)' at a step of a region that draws its order. No program in sight. -/
namespace Go.Proofs.YtldgbnlcnlfmeaaGreat
open Go.RowKit
set_option linter.unusedVariables false
set_option linter.unusedSimpArgs false

theorem viaP {p q : Prop} (h : p) (k : p → q) : q := k h
/-- The i-th operation of a list that is written out. -/
theorem opN {l : List Oper} {i : Nat} {x : Oper} (h : (l.drop i).head? = some x) : l.toArray[i]? = some x := by
  rw [List.head?_drop] at h
  simpa using h
section
variable {P : Program} {ops : Array Oper} {Q : Exit → Act → World → Prop} {S : World → Prop}
/-- Operation i is taken first: it yields v in every world that meets S. -/
theorem tk (i : Nat) {oi : Oper} {v : Value} {fuel : Nat} {listed : Array Bool} {a : Act} {w : World} (hi : ops[i]? = some oi)
    (hb : (Region.noSelect ops && (Region.free .any ops listed i && (Region.ready .any ops listed).contains i)) = true)
    (hw : Region.wanted oi (yielded ops a.tmps) = true) (hv : ∀ w, S w → (execOp a.eval oi).run P w = .ok (.value v) w) (hS : S w)
    (h : wpAnyH P .any ops (NoPanic Q) S fuel (listed.setIfInBounds i true) (a.put oi.dst v) w) : wpAnyH P .any ops (NoPanic Q) S (fuel + 1) listed a w := by
  simp only [Bool.and_eq_true] at hb
  exact wpAnyH_take hi hb.1 hb.2.1 hb.2.2 (fun _ _ _ h => h) (Or.inl ⟨hw, hv⟩) hS h
/-- Operation i is not wanted: its guard says no. -/
theorem sk (i : Nat) {oi : Oper} {fuel : Nat} {listed : Array Bool} {a : Act} {w : World} (hi : ops[i]? = some oi)
    (hb : (Region.noSelect ops && (Region.free .any ops listed i && (Region.ready .any ops listed).contains i)) = true)
    (hw : Region.wanted oi (yielded ops a.tmps) = false) (hS : S w)
    (h : wpAnyH P .any ops (NoPanic Q) S fuel (listed.setIfInBounds i true) (a.put oi.dst undef) w) : wpAnyH P .any ops (NoPanic Q) S (fuel + 1) listed a w := by
  simp only [Bool.and_eq_true] at hb
  exact wpAnyH_take hi hb.1 hb.2.1 hb.2.2 (fun _ _ _ h => h) (Or.inr ⟨hw, rfl⟩) hS h
end
theorem step_append_row {P : Program} {w : World} {ops : Array Oper} {o : Oper} {a : Act} {K : Act → World → Prop} {Q : Exit → Act → World → Prop} {E : Prop} (hgd : o.guard = none) (s xo : Operand) (t : TypeId)
    (ho : o.op = .call { callee := .builtin .append, args := #[s, xo], argTypes := #[t, t] }) {e : Ty} (F : Flat e) (base : Nat) (te : TypeId) {z : Value} {by_ : Nat}
    (hinfo : (P.info? te).map (fun i => (i.zero, i.size, i.bytes)) = some (some z, 1, by_)) (hz1 : z.cells.size = 1) (ht : P.underlying t = some (.slice te))
    (v u : Value) (x y : List e.D) (hs : a.eval s = v) (hx : a.eval xo = u) (hown : Row F w base te v x) (hy : (Ty.sl e).rd w [u] y) (hbytes : (x.length + y.length) * by_ ≤ 140737488355328) (hlen : x.length + y.length ≤ maxLen) (hbase : base ≤ w.heap.size)
    (h : ∀ v' w', Row F w' base te v' (x ++ y) → w.grownBy w' v.ownBlock → K (a.put o.dst v') w') :
    if Region.wanted o (yielded ops a.tmps) = true then Oper.wp P o a w K Q else E := by
  have hw : Region.wanted o (yielded ops a.tmps) = true := by simp [Region.wanted, hgd]
  rw [if_pos hw]
  obtain ⟨v', w', hr, h2, h3⟩ := run_append_row (P := P) F base t o.type te hinfo hz1 ht v u x y hown hy hbytes hlen hbase
  unfold Oper.wp execOp
  simp only [ho, resolve, invoke, builtin, Sem.run_bind, Sem.run_pure, Result.andThen_ok, List.map_toArray, List.map_cons, List.map_nil, hs, hx, hr]
  exact h v' w' h2 h3
end Go.Proofs.YtldgbnlcnlfmeaaGreat

/- Marks: what the statements write into memory to see whether it is shared. Plain part. -/
namespace Go.Proofs.YtldgbnlcnlfmeaaGreat
open Go.RowKit
set_option linter.unusedVariables false
set_option linter.unusedSimpArgs false

/-- Outside the blocks fp nothing that was there has turned. -/
structure Kept (fp : List Nat) (w w' : World) : Prop where
  os : w'.os = w.os
  tape : w'.tape = w.tape
  output : w'.output = w.output
  size : w.heap.size ≤ w'.heap.size
  block : ∀ k, k < w.heap.size → k ∉ fp → w'.heap[k]? = w.heap[k]?
theorem Kept.refl (fp : List Nat) (w : World) : Kept fp w w := ⟨rfl, rfl, rfl, Nat.le_refl _, fun _ _ _ => rfl⟩
theorem Kept.trans {fp : List Nat} {a b c : World} (h : Kept fp a b) (k : Kept fp b c) : Kept fp a c :=
  ⟨k.os.trans h.os, k.tape.trans h.tape, k.output.trans h.output, Nat.le_trans h.size k.size, fun i hi hn => (k.block i (Nat.lt_of_lt_of_le hi h.size) hn).trans (h.block i hi hn)⟩
theorem Kept.mono {fp gp : List Nat} {a b : World} (h : Kept fp a b) (hs : ∀ x ∈ fp, x ∈ gp) : Kept gp a b :=
  ⟨h.os, h.tape, h.output, h.size, fun i hi hn => h.block i hi (fun hm => hn (hs i hm))⟩
theorem Kept.of_below {fp : List Nat} {a b : World} (h : Below a.heap.size a b) : Kept fp a b := ⟨h.os, h.tape, h.output, h.size, fun i hi _ => h.block i hi⟩
theorem Kept.below {fp : List Nat} {a b : World} {B : Nat} (h : Kept fp a b) (hB : B ≤ a.heap.size) (hf : ∀ x ∈ fp, B ≤ x) : Below B a b :=
  ⟨h.os, h.tape, h.output, h.size, fun i hi => h.block i (by omega) (fun hm => by have := hf i hm; omega)⟩
theorem Kept.set {fp : List Nat} {a b : World} (h : Kept fp a b) {p : Addr} (hp : p.block ∈ fp) (u : Value) : Kept fp a (b.setCell p u) :=
  ⟨h.os, h.tape, h.output, by simpa [World.setCell] using h.size, fun i hi hn => (Below.heap_setCell _ _ _ _ (fun e => hn (by rw [e]; exact hp))).trans (h.block i hi hn)⟩
theorem Kept.drewN {fp : List Nat} {a b : World} (h : Kept fp a b) (n : Nat) : Kept fp a (b.drewN n) := ⟨h.os, h.tape, h.output, h.size, h.block⟩
theorem Kept.drew {fp : List Nat} {a b : World} (h : Kept fp a b) : Kept fp a b.drew := ⟨h.os, h.tape, h.output, h.size, h.block⟩
theorem Kept.step {fp : List Nat} {a b c : World} (h : Kept fp a b) (k : Below b.heap.size b c) : Kept fp a c := h.trans (Kept.of_below k)
/-- The digits of a number, lowest last, ahead of what stands there. -/
def digLoop : Nat → Int → List UInt8 → List UInt8
  | 0, _, out => out
  | f + 1, k, out => if k ≤ 0 then out else digLoop f (k / 10) (UInt8.ofNat (48 + k % 10).toNat :: out)
def mkText (k : Int) : List UInt8 := if k ≤ 0 then [109, 48] else 109 :: digLoop 20 k []

def DigInv (f : Nat) (kk : Int) (out : List UInt8) (k : Int) : Prop := digLoop 20 k [] = digLoop f kk out ∧ kk < 10 ^ f
theorem DigInv.done {f : Nat} {kk : Int} {out : List UInt8} {k : Int} (h : DigInv f kk out k) (hk : kk ≤ 0) : digLoop 20 k [] = out := by
  rw [h.1]
  cases f with
  | zero => rfl
  | succ f => rw [digLoop, if_pos hk]
theorem DigInv.step {f : Nat} {kk : Int} {out : List UInt8} {k : Int} (h : DigInv f kk out k) (hk : 0 < kk) : ∃ g, f = g + 1 ∧ DigInv g (kk / 10) (UInt8.ofNat (48 + kk % 10).toNat :: out) k := by
  cases f with
  | zero => have := h.2; simp at this; omega
  | succ g =>
    refine ⟨g, rfl, by rw [h.1, digLoop, if_neg (by omega)], ?_⟩
    have := h.2
    rw [Int.pow_succ] at this
    omega

def Ty.cnt : (t : Ty) → t.D → Nat
  | .int, _ => 1
  | .byte, _ => 1
  | .bool, _ => 0
  | .str, _ => 1
  | .sl e, x => (List.map (fun d => e.cnt d) x).sum
  | .pr a b, x => a.cnt x.1 + b.cnt x.2
def mkSl {α : Type} (f : α → Int → α) (c : α → Nat) : List α → Int → List α
  | [], _ => []
  | a :: l, k => f a k :: mkSl f c l (k + c a)
/-- Every number, byte and string in memory is written over by a mark. -/
def Ty.mk : (t : Ty) → t.D → Int → t.D
  | .int, _, k => k
  | .byte, _, k => UInt8.ofNat (k % 256).toNat
  | .bool, b, _ => b
  | .str, _, k => mkText k
  | .sl e, x, k => mkSl (fun d k => e.mk d k) (fun d => e.cnt d) x k
  | .pr a b, x, k => (a.mk x.1 k, b.mk x.2 (k + a.cnt x.1))
/-- Bounds on how many marks there are. -/
def Ty.k0 : Ty → Nat
  | .int => 1 | .byte => 1 | .bool => 0 | .str => 1
  | .sl _ => 0
  | .pr a b => a.k0 + b.k0
def Ty.wt : Ty → Nat
  | .sl e => e.k0 + e.wt
  | .pr a b => a.wt + b.wt
  | _ => 0
theorem length_mkSl {α : Type} (f : α → Int → α) (c : α → Nat) : ∀ (l : List α) (k : Int), (mkSl f c l k).length = l.length
  | [], _ => rfl
  | a :: l, k => by rw [mkSl, List.length_cons, length_mkSl f c l, List.length_cons]
/-- Half-way: the first j elements are marked. -/
def mkTo {α : Type} (f : α → Int → α) (c : α → Nat) (l : List α) (k : Int) (j : Nat) : List α := (mkSl f c l k).take j ++ l.drop j
theorem mkTo_zero {α : Type} (f : α → Int → α) (c : α → Nat) (l : List α) (k : Int) : mkTo f c l k 0 = l := by simp [mkTo]
theorem mkTo_all {α : Type} (f : α → Int → α) (c : α → Nat) (l : List α) (k : Int) : mkTo f c l k l.length = mkSl f c l k := by
  rw [mkTo, List.drop_length, List.append_nil, List.take_of_length_le (by rw [length_mkSl]; exact Nat.le_refl _)]
theorem Ty.sz_pos : ∀ t : Ty, 0 < t.sz
  | .int => Nat.one_pos
  | .byte => Nat.one_pos
  | .bool => Nat.one_pos
  | .str => Nat.one_pos
  | .sl _ => Nat.one_pos
  | .pr a b => Nat.lt_of_lt_of_le (Ty.sz_pos a) (Nat.le_add_right _ _)
theorem Ty.ow_lt {w : World} : ∀ {t : Ty} {cs : List Value} {x : t.D} {fp : List Nat}, t.ow w cs x fp → ∀ b ∈ fp, b < w.heap.size
  | .int, _, _, _, h, b, hb => by rw [h.2] at hb; cases hb
  | .byte, _, _, _, h, b, hb => by rw [h.2] at hb; cases hb
  | .bool, _, _, _, h, b, hb => by rw [h.2] at hb; cases hb
  | .str, _, _, _, h, b, hb => by rw [h.2] at hb; cases hb
  | .sl e, _, x, _, ⟨A, c, h1, h2, h3, h4, h5⟩, b, hb => by
    rcases h5 with h5 | ⟨h0, g, o, fs, hA, hfp, hc⟩
    · rw [h5.2] at hb; cases hb
    · rw [hfp] at hb
      rcases List.mem_cons.1 hb with rfl | hb
      · obtain ⟨ds, hl, hcell, _⟩ := hc 0 h0
        have hz := Ty.sz_pos e
        have hv : w.cell? ⟨b, o + 0 * e.sz + 0, none⟩ = some (ds[0]'(by omega)) := by rw [(hcell 0 hz).1]; exact List.getElem?_eq_getElem (by omega)
        exact World.block_lt_of_cell? w _ hv
      · obtain ⟨i, hi, hb⟩ := List.mem_flatMap.1 hb
        obtain ⟨ds, hl, hcell, hr⟩ := hc i (List.mem_range.1 hi)
        exact Ty.ow_lt hr b hb
  | .pr _ _, _, _, _, ⟨c1, c2, f1, f2, h, hf, h1, h2⟩, b, hb => by
    rw [hf] at hb
    rcases List.mem_append.1 hb with hb | hb
    · exact Ty.ow_lt h1 b hb
    · exact Ty.ow_lt h2 b hb

theorem Ty.ow_bel {w w' : World} (hb : Below w.heap.size w w') {t : Ty} {cs : List Value} {x : t.D} {fp : List Nat} (h : t.ow w cs x fp) : t.ow w' cs x fp :=
  Ty.ow_keep (fun b hb' => hb.block b (Ty.ow_lt h b hb')) h
/-- A call that writes marks. -/
def RetMk (w : World) (t : Ty) (cs : List Value) (x : t.D) (fp : List Nat) (k : Int) (e : Ending) (w' : World) : Prop := e = .returned (.int .i64 k) ∧ t.ow w' cs x fp ∧ Kept fp w w'
/-- j elements are marked. -/
def MkInv (e : Ty) (A : Option Addr) (c : Nat) (x : List e.D) (fp : List Nat) (k : Int) (w : World) (j : Nat) (wr : World) : Prop :=
  (Ty.sl e).ow wr [.slice A x.length c] (mkTo (fun d k => e.mk d k) (fun d => e.cnt d) x k j) fp ∧ Kept fp w wr
theorem MkInv.zero {e : Ty} {A : Option Addr} {c : Nat} {x : List e.D} {fp : List Nat} {k : Int} {w : World} (h : (Ty.sl e).ow w [.slice A x.length c] x fp) : MkInv e A c x fp k w 0 w := by
  refine ⟨?_, Kept.refl _ _⟩
  rw [mkTo_zero]
  exact h
theorem MkInv.done {e : Ty} {A : Option Addr} {c : Nat} {x : List e.D} {fp : List Nat} {k kk : Int} {w wr : World} (h : MkInv e A c x fp k w x.length wr) :
    RetMk w (.sl e) [.slice A x.length c] (Ty.mk (.sl e) x k) fp kk (.returned (.int .i64 kk)) wr := by
  refine ⟨rfl, ?_, h.2⟩
  have := h.1
  rw [mkTo_all] at this
  exact this
end Go.Proofs.YtldgbnlcnlfmeaaGreat

/- Rows of structs that a call builds by append, each element with memory of its own. No program in sight. -/
namespace Go.Proofs.YtldgbnlcnlfmeaaGreat
open Go.RowKit
set_option linter.unusedVariables false
set_option linter.unusedSimpArgs false

theorem Ty.ow_ones {w : World} : ∀ {t : Ty} {cs : List Value} {x : t.D} {fp : List Nat}, t.ow w cs x fp → ∀ u ∈ cs, u.oneCell' = true
  | .int, _, _, _, h => by rw [h.1.1]; intro u hu; simp at hu; subst hu; rfl
  | .byte, _, _, _, h => by rw [show _ = _ from h.1]; intro u hu; simp at hu; subst hu; rfl
  | .bool, _, _, _, h => by rw [show _ = _ from h.1]; intro u hu; simp at hu; subst hu; rfl
  | .str, _, _, _, h => by rw [h.1.1]; intro u hu; simp at hu; subst hu; rfl
  | .sl _, _, _, _, ⟨_, _, h, _⟩ => by rw [h]; intro u hu; simp at hu; subst hu; rfl
  | .pr a b, _, _, _, ⟨c1, c2, _, _, h, _, h1, h2⟩ => by
    rw [h]; intro u hu
    rcases List.mem_append.1 hu with hu | hu
    · exact Ty.ow_ones h1 u hu
    · exact Ty.ow_ones h2 u hu
/-- No slice within. -/
def Ty.flat : Ty → Bool
  | .sl _ => false
  | .pr a b => a.flat && b.flat
  | _ => true
theorem Ty.rd_ow_flat {w : World} : ∀ {t : Ty} {cs : List Value} {x : t.D}, t.flat = true → t.rd w cs x → t.ow w cs x []
  | .int, _, _, _, h => ⟨h, rfl⟩
  | .byte, _, _, _, h => ⟨h, rfl⟩
  | .bool, _, _, _, h => ⟨h, rfl⟩
  | .str, _, _, _, h => ⟨h, rfl⟩
  | .sl _, _, _, hf, _ => by simp [Ty.flat] at hf
  | .pr a b, _, _, hf, ⟨c1, c2, h, h1, h2⟩ => by
    simp only [Ty.flat, Bool.and_eq_true] at hf
    exact ⟨c1, c2, [], [], h, rfl, Ty.rd_ow_flat hf.1 h1, Ty.rd_ow_flat hf.2 h2⟩

theorem fmr_congr {α : Type} {f g : Nat → List α} : ∀ {n : Nat}, (∀ i, i < n → f i = g i) → (List.range n).flatMap f = (List.range n).flatMap g
  | 0, _ => rfl
  | n + 1, h => by
    rw [List.range_succ, List.flatMap_append, List.flatMap_append, fmr_congr (n := n) (fun i hi => h i (by omega))]
    simp [h n (by omega)]
theorem fmr_len {α : Type} (css : Nat → List α) (sz : Nat) : ∀ n, (∀ i, i < n → (css i).length = sz) → ((List.range n).flatMap css).length = n * sz
  | 0, _ => by simp
  | n + 1, h => by
    rw [List.range_succ, List.flatMap_append, List.length_append, fmr_len css sz n (fun i hi => h i (by omega)), Nat.succ_mul]
    simp [h n (by omega)]
theorem fmr_get {α : Type} (css : Nat → List α) (sz : Nat) : ∀ n, (∀ i, i < n → (css i).length = sz) → ∀ i j, i < n → j < sz → ((List.range n).flatMap css)[i * sz + j]? = (css i)[j]?
  | 0, _, _, _, h, _ => by omega
  | n + 1, h, i, j, hi, hj => by
    have hl := fmr_len css sz n (fun i hi => h i (by omega))
    rw [List.range_succ, List.flatMap_append]
    by_cases hin : i < n
    · have h2 : (i + 1) * sz ≤ n * sz := Nat.mul_le_mul_right _ (by omega)
      rw [Nat.succ_mul] at h2
      rw [List.getElem?_append_left (by rw [hl]; omega)]
      exact fmr_get css sz n (fun i hi => h i (by omega)) i j hin hj
    · obtain rfl : i = n := by omega
      rw [List.getElem?_append_right (by rw [hl]; omega), hl, Nat.add_sub_cancel_left]
      simp
def glue {α : Type} (n : Nat) (f g : Nat → α) : Nat → α := fun i => if i < n then f i else g (i - n)
theorem glue_lt {α : Type} {n : Nat} {f g : Nat → α} {i : Nat} (h : i < n) : glue n f g i = f i := if_pos h
theorem glue_ge {α : Type} {n : Nat} {f g : Nat → α} (i : Nat) : glue n f g (n + i) = g i := by
  unfold glue; rw [if_neg (by omega), Nat.add_sub_cancel_left]
theorem fmr_glue {α : Type} (n : Nat) (f g : Nat → List α) : ∀ m, (List.range (n + m)).flatMap (glue n f g) = (List.range n).flatMap f ++ (List.range m).flatMap g
  | 0 => by
    rw [Nat.add_zero, fmr_congr (fun i hi => glue_lt hi)]; simp
  | m + 1 => by
    rw [← Nat.add_assoc, List.range_succ, List.flatMap_append, fmr_glue n f g m, List.range_succ (n := m), List.flatMap_append, List.append_assoc]
    simp [glue_ge]

/-- What an append takes in: elements whose cells are read, each owned in blocks behind lo. -/
def Src (e : Ty) (w : World) (lo : Nat) (u : Value) (y : List e.D) : Prop :=
  ∃ A c fs, u = .slice A y.length c ∧ FrI lo w.heap.size ((List.range y.length).flatMap fs) ∧
    (0 < y.length → ∃ b o, A = some ⟨b, o, none⟩ ∧ ∀ i (h : i < y.length), ∃ ds : List Value, ds.length = e.sz ∧ (∀ j, j < e.sz → w.cell? ⟨b, o + i * e.sz + j, none⟩ = ds[j]?) ∧ e.ow w ds y[i] (fs i))
theorem Src.flat {e : Ty} {w : World} {u : Value} {y : List e.D} (hf : e.flat = true) (h : (Ty.sl e).rd w [u] y) (lo : Nat) : Src e w lo u y := by
  obtain ⟨A, c, hu, _, _, _, hc⟩ := h
  injection hu with hu _
  refine ⟨A, c, fun _ => [], hu, ?_, fun h0 => ?_⟩
  · rw [List.flatMap_eq_nil_iff.2 (fun _ _ => rfl)]; exact FrI.nil _ _
  · obtain ⟨b, o, hA, hel⟩ := hc h0
    exact ⟨b, o, hA, fun i hi => by obtain ⟨ds, h1, h2, h3⟩ := hel i hi; exact ⟨ds, h1, h2, Ty.rd_ow_flat hf h3⟩⟩
/-- One element, laid in a block of its own. -/
theorem Src.one {e : Ty} {w : World} {lo b o c : Nat} {ds : List Value} {d : e.D} {f : List Nat} (hc : ∀ j, j < e.sz → w.cell? ⟨b, o + j, none⟩ = ds[j]?) (how : e.ow w ds d f) (hf : FrI lo w.heap.size f) :
    Src e w lo (.slice (some ⟨b, o, none⟩) 1 c) [d] := by
  refine ⟨_, c, fun _ => f, rfl, ?_, fun _ => ⟨b, o, rfl, fun i hi => ?_⟩⟩
  · simpa using hf
  · have h0 : i = 0 := by simpa using hi
    subst h0
    exact ⟨ds, Ty.ow_len how, fun j hj => by rw [Nat.zero_mul, Nat.add_zero]; exact hc j hj, how⟩
theorem Src.lit {e : Ty} {w : World} {lo c : Nat} (te : TypeId) {ds : List Value} {d : e.D} {f : List Nat} (how : e.ow w ds d f) (hf : FrI lo w.heap.size f) :
    Src e (w.alloc (.cells ds.toArray te)) lo (.slice (some ⟨w.heap.size, 0, none⟩) 1 c) [d] :=
  Src.one (fun j hj => by rw [Nat.zero_add]; exact (cell_new w te ds.toArray j rfl).trans (by simp)) (Ty.ow_bel ((Below.refl _ _).alloc (Nat.le_refl _) _) how) (hf.mono (Nat.le_refl _) (by rw [World.size_alloc]; omega))

theorem Src.litE {e : Ty} {w : World} {lo c g : Nat} (te : TypeId) {ds : List Value} {d : e.D} {f : List Nat} (how : e.ow w ds d f) (hf : FrI lo w.heap.size f) (hg : g = w.heap.size) :
    Src e (w.alloc (.cells ds.toArray te)) lo (.slice (some ⟨g, 0, none⟩) 1 c) [d] := by subst hg; exact Src.lit te how hf
theorem Src.drew {e : Ty} {w : World} {lo : Nat} {u : Value} {y : List e.D} (h : Src e w lo u y) : Src e w.drew lo u y := by
  obtain ⟨A, c, fs, h1, h2, h3⟩ := h
  refine ⟨A, c, fs, h1, h2, fun h0 => ?_⟩
  obtain ⟨b, o, h4, h5⟩ := h3 h0
  exact ⟨b, o, h4, fun i hi => by obtain ⟨ds, g1, g2, g3⟩ := h5 i hi; exact ⟨ds, g1, g2, Ty.ow_bel (bel_drew (Below.refl _ _)) g3⟩⟩
/-- A row of elements with memory of their own. -/
def DRow (e : Ty) (w : World) (base : Nat) (te : TypeId) (v : Value) (x : List e.D) : Prop :=
  ∃ (css : Nat → List Value) (fs : Nat → List Nat), w.ownsRow base te e.sz v x.length ((List.range x.length).flatMap css) ∧
    (∀ i (h : i < x.length), (css i).length = e.sz ∧ e.ow w (css i) x[i] (fs i)) ∧
    FrI base w.heap.size ((List.range x.length).flatMap fs) ∧ (∀ g, v.ownBlock = some g → g ∉ (List.range x.length).flatMap fs)
theorem DRow.nil (e : Ty) (w : World) (base : Nat) (te : TypeId) : DRow e w base te (.slice none 0 0) [] :=
  ⟨fun _ => [], fun _ => [], World.ownsRow_nil w base te e.sz, fun i h => absurd h (by simp), FrI.nil _ _, fun g h => by cases h⟩
theorem DRow.lit0 (e : Ty) (w : World) (te : TypeId) {base : Nat} (hb : base ≤ w.heap.size) : DRow e (w.alloc (.cells #[] te)) base te (.slice (some ⟨w.heap.size, 0, none⟩) 0 0) [] :=
  ⟨fun _ => [], fun _ => [], World.ownsRow_lit w #[] 0 hb (by unfold maxLen; omega) (by simp), fun i h => absurd h (by simp), FrI.nil _ _, fun g h => by simp⟩
section
variable {e : Ty} {w w' : World} {base : Nat} {te : TypeId} {v : Value} {x : List e.D}
theorem DRow.block (h : DRow e w base te v x) : ∀ g, v.ownBlock = some g → base ≤ g ∧ g < w.heap.size := by
  obtain ⟨css, fs, h, _⟩ := h
  exact h.lt
theorem DRow.below (h : DRow e w base te v x) (hb : Below w.heap.size w w') : DRow e w' base te v x := by
  obtain ⟨css, fs, h1, h2, h3, h4⟩ := h
  refine ⟨css, fs, ⟨h1.1, ?_⟩, fun i hi => ⟨(h2 i hi).1, Ty.ow_bel hb (h2 i hi).2⟩, h3.mono (Nat.le_refl _) hb.size, h4⟩
  rcases h1.2 with hn | ⟨g, cap, cur, rfl, hbg, hgg, rest⟩
  · exact .inl hn
  · exact .inr ⟨g, cap, cur, rfl, hbg, (hb.block g (Blk.lt (t := te) (cs := cur) hgg)).trans hgg, rest⟩
theorem DRow.mono {base' : Nat} (h : DRow e w base te v x) (hb : base' ≤ base) : DRow e w base' te v x := by
  obtain ⟨css, fs, h1, h2, h3, h4⟩ := h
  refine ⟨css, fs, ⟨h1.1, ?_⟩, h2, h3.mono hb (Nat.le_refl _), h4⟩
  rcases h1.2 with hn | ⟨g, cap, cur, rfl, hbg, hgg, rest⟩
  · exact .inl hn
  · exact .inr ⟨g, cap, cur, rfl, Nat.le_trans hb hbg, hgg, rest⟩
theorem DRow.le (h : DRow e w base te v x) : x.length ≤ maxLen := by
  obtain ⟨css, fs, h, _⟩ := h
  rcases h.2 with ⟨_, hn⟩ | ⟨g, cap, cur, _, _, _, h1, h2, _⟩
  · rw [hn]; exact Nat.zero_le _
  · exact Nat.le_trans h1 h2
theorem DRow.own (h : DRow e w base te v x) : ∃ A c fp, v = .slice A x.length c ∧ (Ty.sl e).ow w [v] x fp ∧ FrI base w.heap.size fp := by
  have hl := h.le
  unfold maxLen at hl
  obtain ⟨css, fs, h1, h2, h3, h4⟩ := h
  rcases h1.2 with ⟨rfl, hn⟩ | ⟨g, cap, cur, rfl, hbg, hg, hnc, hcm, hcs, htake⟩
  · have hx : x = [] := List.eq_nil_of_length_eq_zero hn
    subst hx
    exact ⟨none, 0, [], rfl, ⟨none, 0, rfl, by simp, ⟨by unfold maxLen; omega, fun _ => rfl⟩, by simp, .inl ⟨rfl, rfl⟩⟩, FrI.nil _ _⟩
  · have hlt : g < w.heap.size := Blk.lt (t := te) (cs := cur) hg
    by_cases h0 : x.length = 0
    · exact ⟨_, _, [], rfl, ⟨_, _, rfl, hnc, ⟨hcm, fun h => by cases h⟩, by omega, .inl ⟨h0, rfl⟩⟩, FrI.nil _ _⟩
    · have hg4 := h4 g rfl
      refine ⟨_, _, g :: (List.range x.length).flatMap fs, rfl, ⟨_, _, rfl, hnc, ⟨hcm, fun h => by cases h⟩, by omega, .inr ⟨by show 0 < x.length; omega, g, 0, fs, rfl, rfl, fun i hi => ?_⟩⟩, ?_⟩
      · refine ⟨css i, (h2 i hi).1, fun j hj => ⟨?_, ?_⟩, (h2 i hi).2⟩
        · have h5 : (i + 1) * e.sz ≤ x.length * e.sz := Nat.mul_le_mul_right _ hi
          rw [Nat.succ_mul] at h5
          rw [Nat.zero_add, h1.cellAt (i * e.sz + j) (by omega)]
          exact fmr_get css e.sz x.length (fun i hi => (h2 i hi).1) i j hi hj
        · exact Blk.frozen (t := te) (cs := cur) hg _
      · refine ⟨List.nodup_cons.2 ⟨hg4, h3.1⟩, fun b hb' => ?_⟩
        rcases List.mem_cons.1 hb' with rfl | hb'
        · exact ⟨hbg, hlt⟩
        · exact h3.2 b hb'
theorem DRow.rd (h : DRow e w base te v x) : (Ty.sl e).rd w [v] x := by
  obtain ⟨A, c, fp, _, how, _⟩ := h.own
  exact Ty.ow_rd how
theorem DRow.form (h : DRow e w base te v x) : ∃ A c, v = .slice A x.length c := by
  obtain ⟨A, c, fp, hv, _⟩ := h.own
  exact ⟨A, c, hv⟩
end

theorem ownsRow_below {w w' : World} {base : Nat} {te : TypeId} {sz : Nat} {v : Value} {n : Nat} {xs : List Value} (h1 : w.ownsRow base te sz v n xs) (hb : Below w.heap.size w w') : w'.ownsRow base te sz v n xs := by
  refine ⟨h1.1, ?_⟩
  rcases h1.2 with hn | ⟨g, cap, cur, rfl, hbg, hgg, rest⟩
  · exact .inl hn
  · exact .inr ⟨g, cap, cur, rfl, hbg, (hb.block g (Blk.lt (t := te) (cs := cur) hgg)).trans hgg, rest⟩
theorem run_append_drow {P : Program} {w0 w : World} {e : Ty} (base : Nat) (t ty te : TypeId) {z : Value} {by_ : Nat} (hinfo : (P.info? te).map (fun i => (i.zero, i.size, i.bytes)) = some (some z, e.sz, by_)) (hz1 : z.cells.size = e.sz) (ht : P.underlying t = some (.slice te))
    (v u : Value) (x y : List e.D) (hown : DRow e w0 base te v x) (hbel : Below w0.heap.size w0 w) (hy : Src e w w0.heap.size u y) (hbytes : (x.length + y.length) * by_ ≤ 140737488355328) (hlen : x.length + y.length ≤ maxLen) (hbase : base ≤ w0.heap.size) :
    ∃ v' w', (Builtin.append_ #[t, t] ty #[v, u]).run P w = .ok v' w' ∧ DRow e w' base te v' (x ++ y) ∧ w.grownBy w' v.ownBlock := by
  obtain ⟨i, hi, hzz⟩ := Option.map_eq_some_iff.1 hinfo
  simp only [Prod.mk.injEq] at hzz
  obtain ⟨hz, hsz, hby⟩ := hzz
  have hlt0 := hown.block
  obtain ⟨css, fs, h1, h2, h3, h4⟩ := hown
  have h1' := ownsRow_below h1 hbel
  obtain ⟨A, c, fs', rfl, hfr', hel⟩ := hy
  by_cases h0 : y.length = 0
  · have hy0 : y = [] := List.eq_nil_of_length_eq_zero h0
    subst hy0
    refine ⟨v, w, run_append_zero base t ty te i e.sz ht hi v _ _ h1' A c, ?_, World.grownBy.refl _ _⟩
    rw [List.append_nil]
    exact DRow.below ⟨css, fs, h1, h2, h3, h4⟩ hbel
  · obtain ⟨b, o, rfl, hel2⟩ := hel (by omega)
    have hpos := Ty.sz_pos e
    have hds : ∃ dss : Nat → List Value, ∀ i (h : i < y.length), (dss i).length = e.sz ∧ (∀ j, j < e.sz → w.cell? ⟨b, o + i * e.sz + j, none⟩ = (dss i)[j]?) ∧ e.ow w (dss i) y[i] (fs' i) := by
      refine ⟨fun i => if h : i < y.length then (hel2 i h).choose else [], fun i h => ?_⟩
      simp only [dif_pos h]
      exact (hel2 i h).choose_spec
    obtain ⟨dss, hd⟩ := hds
    have hl : ((List.range y.length).flatMap dss).length = y.length * e.sz := fmr_len dss e.sz y.length (fun i hi => (hd i hi).1)
    have hcells : ∀ j u, ((List.range y.length).flatMap dss)[j]? = some u → w.cell? ((⟨b, o, none⟩ : Addr).add j) = some u := by
      intro j u hj
      have hjl : j < y.length * e.sz := by rw [← hl]; exact (List.getElem?_eq_some_iff.1 hj).1
      have hdiv : j / e.sz < y.length := (Nat.div_lt_iff_lt_mul hpos).2 hjl
      have hmod : j % e.sz < e.sz := Nat.mod_lt _ hpos
      have hjj : j / e.sz * e.sz + j % e.sz = j := by rw [Nat.mul_comm]; exact Nat.div_add_mod j e.sz
      have h5 := (hd _ hdiv).2.1 _ hmod
      have h6 := fmr_get dss e.sz y.length (fun i hi => (hd i hi).1) _ _ hdiv hmod
      rw [hjj, hj] at h6
      rw [Addr.add_lit, show o + j = o + j / e.sz * e.sz + j % e.sz from by omega, h5, ← h6]
    have hones : ∀ u ∈ (List.range y.length).flatMap dss, u.oneCell' = true := by
      intro u hu
      obtain ⟨k, hk, hu⟩ := List.mem_flatMap.1 hu
      exact Ty.ow_ones (hd k (List.mem_range.1 hk)).2.2 u hu
    obtain ⟨v', w', hr, g1, g2, _, g3⟩ := run_append_own_at (P := P) w base t ty te i z e.sz by_ ht hi hz hsz hby hz1 hpos v x.length _ h1' ⟨b, o, none⟩ y.length c ((List.range y.length).flatMap dss) hl hcells hones hlen hbytes (Nat.le_trans hbase hbel.size)
    refine ⟨v', w', hr, ⟨glue x.length css dss, glue x.length fs fs', ?_, ?_, ?_, ?_⟩, g2⟩
    · rw [List.length_append, fmr_glue]; exact g1
    · intro k hk
      by_cases hkx : k < x.length
      · rw [glue_lt hkx, glue_lt hkx, List.getElem_append_left hkx]
        refine ⟨(h2 k hkx).1, Ty.ow_keep (fun b' hb' => ?_) (h2 k hkx).2⟩
        have hm : b' ∈ (List.range x.length).flatMap fs := List.mem_flatMap.2 ⟨k, List.mem_range.2 hkx, hb'⟩
        have h5 := h3.2 b' hm
        exact (g2.block b' (Nat.lt_of_lt_of_le h5.2 hbel.size) (fun e' => h4 b' e'.symm hm)).trans (hbel.block b' h5.2)
      · obtain ⟨m, rfl⟩ : ∃ m, k = x.length + m := ⟨k - x.length, by omega⟩
        have hm : m < y.length := by rw [List.length_append] at hk; omega
        rw [glue_ge, glue_ge, List.getElem_append_right (by omega)]
        simp only [Nat.add_sub_cancel_left]
        refine ⟨(hd m hm).1, Ty.ow_keep (fun b' hb' => ?_) (hd m hm).2.2⟩
        have hm' : b' ∈ (List.range y.length).flatMap fs' := List.mem_flatMap.2 ⟨m, List.mem_range.2 hm, hb'⟩
        have h5 := hfr'.2 b' hm'
        exact g2.block b' h5.2 (fun e' => by have := hlt0 b' e'.symm; omega)
    · rw [List.length_append, fmr_glue]
      exact FrI.app h3 (hfr'.mono (Nat.le_refl _) g2.size) (Nat.le_refl _) hbase (Nat.le_trans hbel.size g2.size)
    · intro g hg hmem
      rw [List.length_append, fmr_glue] at hmem
      have hs := hbel.size
      rcases g3 with g3 | g3
      · rw [g3] at hg
        have := hlt0 g hg
        rcases List.mem_append.1 hmem with hm | hm
        · exact h4 g hg hm
        · have := hfr'.2 g hm; omega
      · rw [g3] at hg
        have hg' : w.heap.size = g := by simpa using hg
        rcases List.mem_append.1 hmem with hm | hm
        · have := h3.2 g hm; omega
        · have := hfr'.2 g hm; omega

theorem step_append_drow {P : Program} {w : World} {ops : Array Oper} {o : Oper} {a : Act} {K : Act → World → Prop} {Q : Exit → Act → World → Prop} {E : Prop} (hgd : o.guard = none) (s xo : Operand) (t : TypeId)
    (ho : o.op = .call { callee := .builtin .append, args := #[s, xo], argTypes := #[t, t] }) {e : Ty} (w0 : World) (base : Nat) (te : TypeId) {z : Value} {by_ : Nat}
    (hinfo : (P.info? te).map (fun i => (i.zero, i.size, i.bytes)) = some (some z, e.sz, by_)) (hz1 : z.cells.size = e.sz) (ht : P.underlying t = some (.slice te))
    (v u : Value) (x y : List e.D) (hs : a.eval s = v) (hx : a.eval xo = u) (hown : DRow e w0 base te v x) (hbel : Below w0.heap.size w0 w) (hy : Src e w w0.heap.size u y) (hbytes : (x.length + y.length) * by_ ≤ 140737488355328) (hlen : x.length + y.length ≤ maxLen) (hbase : base ≤ w0.heap.size)
    (h : ∀ v' w', DRow e w' base te v' (x ++ y) → w.grownBy w' v.ownBlock → K (a.put o.dst v') w') :
    if Region.wanted o (yielded ops a.tmps) = true then Oper.wp P o a w K Q else E := by
  have hw : Region.wanted o (yielded ops a.tmps) = true := by simp [Region.wanted, hgd]
  rw [if_pos hw]
  obtain ⟨v', w', hr, h2, h3⟩ := run_append_drow (P := P) base t o.type te hinfo hz1 ht v u x y hown hbel hy hbytes hlen hbase
  unfold Oper.wp execOp
  simp only [ho, resolve, invoke, builtin, Sem.run_bind, Sem.run_pure, Result.andThen_ok, List.map_toArray, List.map_cons, List.map_nil, hs, hx, hr]
  exact h v' w' h2 h3

/-- A call that hands back a row of its own. -/
def RetDRow (e : Ty) (w : World) (te : TypeId) (x : List e.D) (r : Ending) (w' : World) : Prop :=
  ∃ v, r = .returned v ∧ DRow e w' w.heap.size te v x ∧ Below w.heap.size w w'
theorem RetDRow.sl {e : Ty} {w : World} {te : TypeId} {x : List e.D} {r : Ending} {w' : World} (h : RetDRow e w te x r w') : RetSl w e x r w' := by
  obtain ⟨v, rfl, hr, hb⟩ := h
  obtain ⟨A, c, fp, rfl, how, hfr⟩ := hr.own
  exact ⟨A, c, fp, rfl, how, hfr, hb⟩
end Go.Proofs.YtldgbnlcnlfmeaaGreat

/- The cursor of a draw: its block is hidden, and what else was there stays. No program in sight. -/
namespace Go.Proofs.YtldgbnlcnlfmeaaGreat
open Go.RowKit
set_option linter.unusedVariables false
set_option linter.unusedSimpArgs false

/-- The world without what block B holds. -/
def dead : Obj := .cells #[] 0 (0, 0)
def hide (B : Nat) (w : World) : World := { w with heap := w.heap.setIfInBounds B dead }
theorem hide_size (B : Nat) (w : World) : (hide B w).heap.size = w.heap.size := by show (w.heap.setIfInBounds B dead).size = _; simp
theorem hide_other {B g : Nat} (h : g ≠ B) (w : World) : (hide B w).heap[g]? = w.heap[g]? := by
  show (w.heap.setIfInBounds B dead)[g]? = _
  rw [Array.getElem?_setIfInBounds_ne (Ne.symm h)]
theorem hide_same {B : Nat} {w : World} (h : B < w.heap.size) : (hide B w).heap[B]? = some dead := by
  show (w.heap.setIfInBounds B dead)[B]? = _
  rw [Array.getElem?_setIfInBounds_self_of_lt h]
theorem hide_cell {B : Nat} {w : World} {p : Addr} {v : Value} (h : (hide B w).cell? p = some v) : w.cell? p = some v ∧ p.block ≠ B := by
  have hne : p.block ≠ B := by
    intro e
    have hlt : p.block < (hide B w).heap.size := World.block_lt_of_cell? _ _ h
    rw [hide_size] at hlt
    have h2 : (hide B w).heap[p.block]? = some dead := by rw [e]; exact hide_same (by omega)
    unfold World.cell? at h
    rw [h2] at h
    simp [dead] at h
  refine ⟨?_, hne⟩
  have : (hide B w).cell? p = w.cell? p := World.cell?_of_block (w := w) (a := p) (hide_other hne w)
  rw [← this]; exact h
theorem rd_hide {B : Nat} {w : World} : ∀ {t : Ty} {cs : List Value} {x : t.D}, t.rd (hide B w) cs x → t.rd w cs x
  | .int, _, _, h => h
  | .byte, _, _, h => h
  | .bool, _, _, h => h
  | .str, _, _, h => h
  | .sl e, _, _, ⟨A, c, h1, h2, h3, h4, h5⟩ => ⟨A, c, h1, h2, h3, h4, fun hn => by
      obtain ⟨b, o, hA, hc⟩ := h5 hn
      refine ⟨b, o, hA, fun i hi => ?_⟩
      obtain ⟨ds, hl, hcell, hr⟩ := hc i hi
      refine ⟨ds, hl, fun j hj => ?_, rd_hide hr⟩
      have hv : (hide B w).cell? ⟨b, o + i * e.sz + j, none⟩ = some (ds[j]'(by omega)) := by rw [hcell j hj]; exact List.getElem?_eq_getElem (by omega)
      rw [(hide_cell hv).1]
      exact (List.getElem?_eq_getElem (by omega)).symm⟩
  | .pr _ _, _, _, ⟨c1, c2, h, h1, h2⟩ => ⟨c1, c2, h, rd_hide h1, rd_hide h2⟩

/-- From w to w' all that was there stays, but for what block B holds. -/
abbrev Dr (B : Nat) (w w' : World) : Prop := Below w.heap.size (hide B w) (hide B w')
theorem Dr.refl (B : Nat) (w : World) : Dr B w w := Below.refl _ _
theorem Dr.size {B : Nat} {w w' : World} (h : Dr B w w') : w.heap.size ≤ w'.heap.size := by
  have := Below.size h; rw [hide_size, hide_size] at this; exact this
theorem Dr.of {w w' : World} (h : Below w.heap.size w w') (B : Nat) : Dr B w w' := by
  refine ⟨h.os, h.tape, h.output, by rw [hide_size, hide_size]; exact h.size, fun k hk => ?_⟩
  by_cases e : k = B
  · subst e
    rw [hide_same hk, hide_same (Nat.lt_of_lt_of_le hk h.size)]
  · rw [hide_other e, hide_other e]; exact h.block k hk
theorem Dr.trans {B : Nat} {w w1 w2 : World} (h : Dr B w w1) (k : Dr B w1 w2) : Dr B w w2 :=
  ⟨k.os.trans h.os, k.tape.trans h.tape, k.output.trans h.output, Nat.le_trans (Below.size h) (Below.size k), fun g hg => (k.block g (Nat.lt_of_lt_of_le hg h.size)).trans (h.block g hg)⟩
theorem Dr.then_ {B : Nat} {w w1 w2 : World} (h : Dr B w w1) (k : Below w1.heap.size w1 w2) : Dr B w w2 := h.trans (Dr.of k B)
theorem Dr.alloc {B : Nat} {w w1 : World} (h : Dr B w w1) (o : Obj) : Dr B w (w1.alloc o) := h.then_ (bel_alloc (Below.refl _ _) o)
theorem Dr.drewN {B : Nat} {w w1 : World} (h : Dr B w w1) (n : Nat) : Dr B w (w1.drewN n) := h.then_ (bel_drewN (Below.refl _ _) n)
theorem Dr.drew {B : Nat} {w w1 : World} (h : Dr B w w1) : Dr B w w1.drew := h.then_ (bel_drew (Below.refl _ _))
theorem Dr.set {B : Nat} {w w1 : World} (h : Dr B w w1) {p : Addr} (hp : p.block = B ∨ w.heap.size ≤ p.block) (u : Value) : Dr B w (w1.setCell p u) := by
  refine ⟨h.os, h.tape, h.output, by have := Below.size h; rw [hide_size] at this ⊢; rw [hide_size, World.size_setCell]; rw [hide_size] at this; exact this, fun g hg => ?_⟩
  by_cases e : g = B
  · subst e
    rw [hide_same (by rw [World.size_setCell]; exact Nat.lt_of_lt_of_le hg h.size), hide_same hg]
  · rw [hide_other e, hide_other e, Below.heap_setCell w1 p u g (by rcases hp with hp | hp <;> omega)]
    have := h.block g hg
    rw [hide_other e, hide_other e] at this
    exact this
theorem Dr.block {B g : Nat} {w w' : World} (h : Dr B w w') (hg : g < w.heap.size) (hne : g ≠ B) : w'.heap[g]? = w.heap[g]? := by
  have := Below.block h g hg
  rw [hide_other hne, hide_other hne] at this
  exact this
theorem Dr.below {B n : Nat} {w w' : World} (h : Dr B w w') (hn : n ≤ B) (hs : n ≤ w.heap.size) : Below n w w' :=
  ⟨h.os, h.tape, h.output, h.size, fun k hk => h.block (by omega) (by omega)⟩
theorem Dr.blk {B g : Nat} {w w' : World} {t : TypeId} {cs : Array Value} (h : Dr B w w') (hb : Blk w g t cs) (hne : g ≠ B) : Blk w' g t cs := (h.block hb.lt hne).trans hb
/-- What is read without block B stays read. -/
theorem Dr.rd {B : Nat} {w w' : World} (h : Dr B w w') {t : Ty} {cs : List Value} {x : t.D} (hr : t.rd (hide B w) cs x) : t.rd (hide B w') cs x :=
  Ty.rd_below (by rw [hide_size]; exact h) hr
theorem Dr.ow {B : Nat} {w w' : World} (h : Dr B w w') {t : Ty} {cs : List Value} {x : t.D} {fp : List Nat} (hr : t.ow w cs x fp) (hf : B ∉ fp) : t.ow w' cs x fp :=
  Ty.ow_keep (fun b hb => Dr.block h (Ty.ow_lt hr b hb) (fun e => by subst e; exact hf hb)) hr
/-- What a call that knows nothing of the cursor hands back is read without block B. -/
theorem ow_hide {B : Nat} {w : World} {t : Ty} {cs : List Value} {x : t.D} {fp : List Nat} (hr : t.ow w cs x fp) (hf : B ∉ fp) : t.ow (hide B w) cs x fp :=
  Ty.ow_keep (fun b hb => hide_other (fun e => by subst e; exact hf hb) w) hr
theorem ow_hideF {B lo hi : Nat} {w : World} {t : Ty} {cs : List Value} {x : t.D} {fp : List Nat} (hr : t.ow w cs x fp) (hf : FrI lo hi fp) (hB : B < lo) : t.ow (hide B w) cs x fp :=
  ow_hide hr (fun e => by have := (hf.2 _ e).1; omega)
/-- The cursor lies in block B, and what it draws from lies below it. -/
def Cur (tc : TypeId) (w : World) (B : Nat) : Prop :=
  ∃ w0 A c i h, ∃ b : List UInt8, w0.heap.size ≤ B ∧ Below w0.heap.size w0 w ∧ (Ty.sl .byte).rd w0 [.slice A b.length c] b ∧
    Blk w B tc #[.slice A b.length c, .int .i64 i, .int .i64 h] ∧ (0 ≤ i ∧ i ≤ b.length)
section
variable {tc : TypeId} {w w' : World} {B : Nat}
theorem Cur.lt (h : Cur tc w B) : B < w.heap.size := by
  obtain ⟨w0, A, c, i, h, b, _, _, _, hb, _⟩ := h
  exact hb.lt
theorem Cur.keep (h : Cur tc w B) (hb : w'.heap[B]? = w.heap[B]?) (hd : Below B w w') : Cur tc w' B := by
  obtain ⟨w0, A, c, i, h, b, h0, h1, h2, hk, h3⟩ := h
  exact ⟨w0, A, c, i, h, b, h0, h1.trans (hd.mono h0), h2, hb.trans hk, h3⟩
theorem Cur.below (h : Cur tc w B) (hb : Below w.heap.size w w') : Cur tc w' B := h.keep (hb.block B h.lt) (hb.mono (Nat.le_of_lt h.lt))
theorem Cur.alloc (h : Cur tc w B) (o : Obj) : Cur tc (w.alloc o) B := h.below (bel_alloc (Below.refl _ _) o)
theorem Cur.drew (h : Cur tc w B) : Cur tc w.drew B := h.below (bel_drew (Below.refl _ _))
theorem Cur.drewN (h : Cur tc w B) (n : Nat) : Cur tc (w.drewN n) B := h.below (bel_drewN (Below.refl _ _) n)
theorem Cur.far (h : Cur tc w B) {p : Addr} (hp : B < p.block) (u : Value) : Cur tc (w.setCell p u) B :=
  h.keep (Below.heap_setCell w p u B (by omega)) ((Below.refl B w).setCell (by omega) u)
theorem Cur.grown {row : Option Nat} (h : Cur tc w B) (hg : w.grownBy w' row) (hr : ∀ g, row = some g → B < g) : Cur tc w' B :=
  h.keep (hg.block B h.lt (fun e => by have := hr B e.symm; omega)) (bel_grown (Below.refl _ _) (Nat.le_of_lt h.lt) hg (fun g e => Nat.le_of_lt (hr g e)))
end
/-- A call that draws. -/
def RetDr (tc : TypeId) (B : Nat) (w : World) (Q : Ending → World → Prop) (e : Ending) (w' : World) : Prop := Dr B w w' ∧ Cur tc w' B ∧ Q e w'
/-- It draws a number. -/
def DrI (lo hi : Int) (e : Ending) (w' : World) : Prop := ∃ x : Int, e = .returned (.int .i64 x) ∧ lo ≤ x ∧ x ≤ hi
end Go.Proofs.YtldgbnlcnlfmeaaGreat

/- Slices of strings: their sizes, copies, comparisons. -/
namespace Go.Proofs.YtldgbnlcnlfmeaaGreat
open Go.RowKit
set_option linter.unusedVariables false
set_option linter.unusedSimpArgs false

theorem info_str : (Tryz.prog.info? 9).map (fun i => (i.zero, i.size, i.bytes)) = some (some (vS []), 1, 16) := by kernel_rfl

theorem info_Byte : (Tryz.prog.info? 5).map (fun i => (i.zero, i.size, i.bytes)) = some (some (.int .u8 0), 1, 1) := by kernel_rfl
end Go.Proofs.YtldgbnlcnlfmeaaGreat

/- The cursor's own functions: the walks. -/
namespace Go.Proofs.YtldgbnlcnlfmeaaGreat
open Go.RowKit
set_option linter.unusedVariables false
set_option linter.unusedSimpArgs false

theorem i64_and255 (n : Int) : bits .and .i64 n 255 = n % 256 := by
  have h127 : (BitVec.ofInt 64 255).toNat = 2 ^ 8 - 1 := by decide
  have key : (BitVec.ofInt 64 n &&& BitVec.ofInt 64 255).toNat = (n % ((2 ^ 64 : Nat) : Int)).toNat % 2 ^ 8 := by
    rw [BitVec.toNat_and, BitVec.toNat_ofInt, h127, Nat.and_two_pow_sub_one_eq_mod]
  show IntKind.i64.wrap ((BitVec.ofInt 64 n &&& BitVec.ofInt 64 255).toNat : Nat) = n % 256
  rw [key, IntKind.wrap_i64]
  omega
abbrev CurT (w : World) (B : Nat) : Prop := Cur 117 w B
abbrev RetDT (B : Nat) (w : World) (Q : Ending → World → Prop) (e : Ending) (w' : World) : Prop := RetDr 117 B w Q e w'
abbrev pB (B : Nat) : Value := .pointer (some ⟨B, 0, none⟩)
set_option maxHeartbeats 1000000 in
theorem C_spec_l1New (w : World) (v : Value) (b : List UInt8) (h : (Ty.sl .byte).rd w [v] b) :
    Calls Tryz.prog 59 #[v] w (fun e w' => e = .returned (pB w.heap.size) ∧ Below w.heap.size w w' ∧ CurT w' w.heap.size) := by
  obtain ⟨A, c, rfl, hc, hm, hn⟩ := Ty.rd_sl h
  go_enter Tryz.func59, Tryz.ntmps59
  go_wp2
  go_loopw [3, 4] (fun hh i wr => ∃ (k : Nat) (x : Int), k ≤ b.length ∧ i = .int .i64 k ∧ hh = .int .i64 x ∧ wr = w) (fun _ i _ => b.length - (intOf i).toNat)
  case atStart => exact ⟨0, _, by omega, by first | rfl | simp, rfl, rfl⟩
  case round =>
    obtain ⟨k, x, hk, rfl, rfl, hw⟩ := hrel
    obtain rfl : w = wr := hw.symm
    by_cases hlt : k < b.length
    · obtain ⟨bb, o, ds, rfl, hl, hcell, hrd⟩ := Ty.rd_at h hlt
      have hrd : ds = [.int .u8 (b[k].toNat : Int)] := hrd
      subst hrd
      have e0 : w.cell? ⟨bb, o + k, none⟩ = some (.int .u8 (b[k].toNat : Int)) := by simpa [Ty.sz] using hcell 0 (by decide)
      clear hcell hl
      by_cases h4 : (k : Int) < 4000
      · go_wp2
        go_roundw
        case rel => exact ⟨k + 1, _, by omega, by go_num, rfl, by first | rfl | trivial⟩
        case measure => simp [intOf]; omega
      · go_wp2
        go_ret
        exact ⟨rfl, (by repeat' (first | (with_reducible exact Below.refl _ _) | (with_reducible assumption) | (with_reducible refine bel_set ?_ (by (try dsimp only); omega) _) | (with_reducible refine bel_alloc ?_ _) | (with_reducible refine bel_drewN ?_ _) | (with_reducible refine bel_drew ?_))), w, _, _, _, _, b, Nat.le_refl _, (by repeat' (first | (with_reducible exact Below.refl _ _) | (with_reducible assumption) | (with_reducible refine bel_set ?_ (by (try dsimp only); omega) _) | (with_reducible refine bel_alloc ?_ _) | (with_reducible refine bel_drewN ?_ _) | (with_reducible refine bel_drew ?_))), h, Blk.new w _ _, ⟨by omega, by omega⟩⟩
    · go_wp2
      go_ret
      exact ⟨rfl, (by repeat' (first | (with_reducible exact Below.refl _ _) | (with_reducible assumption) | (with_reducible refine bel_set ?_ (by (try dsimp only); omega) _) | (with_reducible refine bel_alloc ?_ _) | (with_reducible refine bel_drewN ?_ _) | (with_reducible refine bel_drew ?_))), w, _, _, _, _, b, Nat.le_refl _, (by repeat' (first | (with_reducible exact Below.refl _ _) | (with_reducible assumption) | (with_reducible refine bel_set ?_ (by (try dsimp only); omega) _) | (with_reducible refine bel_alloc ?_ _) | (with_reducible refine bel_drewN ?_ _) | (with_reducible refine bel_drew ?_))), h, Blk.new w _ _, ⟨by omega, by omega⟩⟩
set_option maxHeartbeats 2000000 in
theorem C_spec_l1Byte (w : World) (B : Nat) (hc : CurT w B) :
    Calls Tryz.prog 138 #[pB B] w (RetDT B w (DrI 0 255)) := by
  have hB := hc.lt
  obtain ⟨w0, A, c, i, hh, b, hb0, hb1, hrd, hk, hi0, hi1⟩ := hc
  obtain ⟨_, _, _, _, _, hbn⟩ := Ty.rd_sl hrd
  obtain ⟨k, rfl⟩ : ∃ k : Nat, i = k := ⟨i.toNat, by omega⟩
  have k0 : w.cell? ⟨B, 0, none⟩ = some (.slice A b.length c) := hk.cell 0
  have k1 : w.cell? ⟨B, 1, none⟩ = some (.int .i64 k) := hk.cell 1
  have k2 : w.cell? ⟨B, 2, none⟩ = some (.int .i64 hh) := hk.cell 2
  have f0 : w.frozen? ⟨B, 0, none⟩ = false := hk.frozen 0
  have f1 : w.frozen? ⟨B, 1, none⟩ = false := hk.frozen 1
  have f2 : w.frozen? ⟨B, 2, none⟩ = false := hk.frozen 2
  by_cases hlt : k < b.length
  · obtain ⟨bb, o, ds, rfl, hl, hcell, hrd1⟩ := Ty.rd_at hrd hlt
    have hrd1 : ds = [.int .u8 (b[k].toNat : Int)] := hrd1
    subst hrd1
    have e0 : w0.cell? ⟨bb, o + k, none⟩ = some (.int .u8 (b[k].toNat : Int)) := by simpa [Ty.sz] using hcell 0 (by decide)
    have hbb : bb < w0.heap.size := World.block_lt_of_cell? _ _ e0
    have e1 : w.cell? ⟨bb, o + k, none⟩ = some (.int .u8 (b[k].toNat : Int)) := (hb1.cell (p := ⟨bb, o + k, none⟩) hbb).trans e0
    have hne : bb ≠ B := by omega
    clear hcell hl
    go_enter Tryz.func138, Tryz.ntmps138
    go_wp2
    go_quiet (fail)
    go_wp2
    go_quiet (fail)
    go_wp2
    go_quiet (fail)
    go_wp2
    go_ret
    refine ⟨(by repeat' (first | (with_reducible exact Dr.refl _ _) | (with_reducible assumption) | (with_reducible refine Dr.set ?_ (by (try dsimp only); omega) _) | (with_reducible refine Dr.alloc ?_ _) | (with_reducible refine Dr.drewN ?_ _) | (with_reducible refine Dr.drew ?_) | (with_reducible refine Dr.trans ?_ (by assumption)))), ?_, _, rfl, by rw [i64_and255]; omega, by rw [i64_and255]; omega⟩
    refine ⟨w0, some ⟨bb, o, none⟩, c, ((k + 1 : Nat) : Int), wrap64 (wrap64 (hh * 6364136223846793005) + 1442695040888963407), b, hb0, (by repeat' (first | (with_reducible assumption) | (with_reducible refine Below.setCell ?_ (by dsimp only; omega) _) | (with_reducible refine bel_drewN ?_ _) | (with_reducible refine bel_drew ?_))), hrd, ?_, ⟨by omega, by omega⟩⟩
    exact (hk.set_ 2 (.int .i64 (wrap64 (wrap64 (hh * 6364136223846793005) + 1442695040888963407)))).set_ 1 (.int .i64 ((k + 1 : Nat) : Int))
  · go_enter Tryz.func138, Tryz.ntmps138
    go_wp2
    go_quiet (fail)
    go_wp2
    go_quiet (fail)
    go_wp2
    go_ret
    refine ⟨(by repeat' (first | (with_reducible exact Dr.refl _ _) | (with_reducible assumption) | (with_reducible refine Dr.set ?_ (by (try dsimp only); omega) _) | (with_reducible refine Dr.alloc ?_ _) | (with_reducible refine Dr.drewN ?_ _) | (with_reducible refine Dr.drew ?_) | (with_reducible refine Dr.trans ?_ (by assumption)))), ?_, _, rfl, by rw [i64_and255]; omega, by rw [i64_and255]; omega⟩
    refine ⟨w0, A, c, (k : Int), wrap64 (wrap64 (hh * 6364136223846793005) + 1442695040888963407), b, hb0, (by repeat' (first | (with_reducible assumption) | (with_reducible refine Below.setCell ?_ (by dsimp only; omega) _) | (with_reducible refine bel_drewN ?_ _) | (with_reducible refine bel_drew ?_))), hrd, ?_, ⟨by omega, by omega⟩⟩
    exact hk.set_ 2 (.int .i64 (wrap64 (wrap64 (hh * 6364136223846793005) + 1442695040888963407)))
theorem rem_bd (x n : Int) (h : 1 ≤ n) (hx : 0 ≤ x) : 0 ≤ x % n ∧ x % n ≤ n - 1 := by
  exact ⟨Int.emod_nonneg _ (by omega), by have := Int.emod_lt_of_pos x (show (0 : Int) < n by omega); omega⟩
set_option maxHeartbeats 1000000 in
theorem C_spec_l1Below (w : World) (B : Nat) (n : Int) (hc : CurT w B) (h1 : 1 ≤ n) (h2 : n ≤ 1000000000) :
    Calls Tryz.prog 95 #[pB B, .int .i64 n] w (RetDT B w (DrI 0 (n - 1))) := by
  have q0 : decide (n ≤ 0) = false := by simp; omega
  have qn : (n == 0) = false := by rw [beq_eq_false_iff_ne]; omega
  by_cases hle : n ≤ 256
  · go_enter Tryz.func95, Tryz.ntmps95
    go_wp2_with fail
    refine (C_spec_l1Byte _ B hc).mono ?_
    rintro e w1 ⟨hd1, hc1, x, rfl, hx0, hx1⟩
    have hr := rem_bd x n h1 hx0
    go_wp2
    go_ret
    exact ⟨hd1, hc1, _, rfl, hr.1, hr.2⟩
  · go_enter Tryz.func95, Tryz.ntmps95
    go_wp2_with fail
    refine (C_spec_l1Byte _ B hc).mono ?_
    rintro e w1 ⟨hd1, hc1, x, rfl, hx0, hx1⟩
    go_wp2_with fail
    refine (C_spec_l1Byte _ B hc1).mono ?_
    rintro e w2 ⟨hd2, hc2, y, rfl, hy0, hy1⟩
    go_wp2_with fail
    refine (C_spec_l1Byte _ B hc2).mono ?_
    rintro e w3 ⟨hd3, hc3, z, rfl, hz0, hz1⟩
    have hr := rem_bd (x * 65536 + y * 256 + z) n h1 (by omega)
    go_wp2
    go_ret
    exact ⟨(hd1.trans hd2).trans hd3, hc3, _, rfl, hr.1, hr.2⟩
set_option maxHeartbeats 1000000 in
theorem C_spec_l1Once (w : World) (B : Nat) (n : Int) (hc : CurT w B) (h1 : 1 ≤ n) (h2 : n ≤ 1000000000) :
    Calls Tryz.prog 134 #[pB B, .int .i64 n] w (RetDT B w (fun e _ => ∃ b : Bool, e = .returned (.bool b))) := by
  go_enter Tryz.func134, Tryz.ntmps134
  go_wp2_with fail
  refine (C_spec_l1Below _ B n hc h1 h2).mono ?_
  rintro e w1 ⟨hd1, hc1, x, rfl, hx0, hx1⟩
  go_wp2
  go_ret
  exact ⟨hd1, hc1, _, rfl⟩
set_option maxHeartbeats 1000000 in
theorem C_spec_l1Str (w : World) (B : Nat) (v : Value) (l : List (List UInt8)) (hc : CurT w B) (h : (Ty.sl .str).rd (hide B w) [v] l) (h1 : 1 ≤ l.length) (h2 : l.length ≤ 256) :
    Calls Tryz.prog 63 #[pB B, v] w (RetDT B w (fun e _ => ∃ s ∈ l, e = .returned (vS s))) := by
  obtain ⟨A, c, rfl, hcl, hcm, hn⟩ := Ty.rd_sl h
  go_enter Tryz.func63, Tryz.ntmps63
  go_wp2_with fail
  refine (C_spec_l1Below _ B l.length hc (by omega) (by omega)).mono ?_
  rintro e w1 ⟨hd1, hc1, x, rfl, hx0, hx1⟩
  obtain ⟨k, rfl⟩ : ∃ k : Nat, x = k := ⟨x.toNat, by omega⟩
  have hk : k < l.length := by omega
  obtain ⟨b, o, ds, rfl, hl, hcell, hrd⟩ := Ty.rd_at (rd_hide (Dr.rd hd1 h)) hk
  obtain ⟨rfl, hsl⟩ := hrd
  have e0 : w1.cell? ⟨b, o + k, none⟩ = some (vS l[k]) := by simpa [Ty.sz] using hcell 0 (by decide)
  clear hcell hl
  go_wp2
  go_ret
  exact ⟨hd1, hc1, _, List.getElem_mem hk, rfl⟩
set_option maxHeartbeats 1000000 in
theorem C_spec_l1Int (w : World) (B : Nat) (v : Value) (l : List Int) (hc : CurT w B) (h : (Ty.sl .int).rd (hide B w) [v] l) (h1 : 1 ≤ l.length) (h2 : l.length ≤ 256) :
    Calls Tryz.prog 64 #[pB B, v] w (RetDT B w (fun e _ => ∃ s ∈ l, e = .returned (.int .i64 s))) := by
  obtain ⟨A, c, rfl, hcl, hcm, hn⟩ := Ty.rd_sl h
  go_enter Tryz.func64, Tryz.ntmps64
  go_wp2_with fail
  refine (C_spec_l1Below _ B l.length hc (by omega) (by omega)).mono ?_
  rintro e w1 ⟨hd1, hc1, x, rfl, hx0, hx1⟩
  obtain ⟨k, rfl⟩ : ∃ k : Nat, x = k := ⟨x.toNat, by omega⟩
  have hk : k < l.length := by omega
  obtain ⟨b, o, ds, rfl, hl, hcell, hrd⟩ := Ty.rd_at (rd_hide (Dr.rd hd1 h)) hk
  obtain ⟨rfl, hsl⟩ := hrd
  have e0 : w1.cell? ⟨b, o + k, none⟩ = some (.int .i64 l[k]) := by simpa [Ty.sz] using hcell 0 (by decide)
  clear hcell hl
  go_wp2
  go_ret
  exact ⟨hd1, hc1, _, List.getElem_mem hk, rfl⟩
end Go.Proofs.YtldgbnlcnlfmeaaGreat

/- Plain functions on data, and laws of theirs. No program in sight. -/
namespace Go.Proofs.YtldgbnlcnlfmeaaGreat
set_option linter.unusedVariables false
set_option linter.unusedSimpArgs false

/-- Lower-case letters, digits, the dash. -/
def okByte (c : UInt8) : Bool := (decide (97 ≤ c.toNat) && decide (c.toNat ≤ 122)) || (decide (48 ≤ c.toNat) && decide (c.toNat ≤ 57)) || decide (c.toNat = 45)
def validPart (s : List UInt8) : Bool := s.all okByte && (decide (1 ≤ s.length) && decide (s.length ≤ 8))
def validName (n : List (List UInt8)) : Bool := n.all validPart && decide (n.length ≤ 6)
/-- 'all' up to k, and one step more. -/
theorem all_take_succ {α : Type} (p : α → Bool) (l : List α) {k : Nat} (h : k < l.length) : (l.take (k + 1)).all p = ((l.take k).all p && p l[k]) := by
  rw [List.take_succ_eq_append_getElem h, List.all_append]; simp
theorem all_false_of {α : Type} (p : α → Bool) (l : List α) {k : Nat} (h : k < l.length) (hp : p l[k] = false) : l.all p = false := by
  rw [List.all_eq_false]; exact ⟨l[k], List.getElem_mem h, by simp [hp]⟩
theorem any_take_succ {α : Type} (p : α → Bool) (l : List α) {k : Nat} (h : k < l.length) : (l.take (k + 1)).any p = ((l.take k).any p || p l[k]) := by
  rw [List.take_succ_eq_append_getElem h, List.any_append]; simp
theorem rangeAll_not {n k : Nat} {p : Nat → Bool} (hk : k < n) (h : p k = false) : (List.range n).all p = false := by
  rw [List.all_eq_false]; exact ⟨k, List.mem_range.2 hk, by simp [h]⟩
end Go.Proofs.YtldgbnlcnlfmeaaGreat

/- The helper functions of the statements: sizes, copies, comparisons, marks, for each type. Printed by a program. -/
namespace Go.Proofs.YtldgbnlcnlfmeaaGreat
open Go.RowKit
set_option linter.unusedVariables false
set_option linter.unusedSimpArgs false

abbrev tData : Ty := (.pr (.sl .str) (.pr (.sl .byte) (.pr (.sl .str) (.pr .int .int))))
theorem rd_Data {w : World} {cs : List Value} {x : tData.D} (h : tData.rd w cs x) : ∃ (A0 : Option Addr) (c0 : Nat) (A1 : Option Addr) (c1 : Nat) (A2 : Option Addr) (c2 : Nat), cs = [.slice A0 (List.length x.1) c0, .slice A1 (List.length x.2.1) c1, .slice A2 (List.length x.2.2.1) c2, .int .i64 x.2.2.2.1, .int .i64 x.2.2.2.2] ∧ (Ty.rd w (.sl .str) [.slice A0 (List.length x.1) c0] x.1) ∧ (Ty.rd w (.sl .byte) [.slice A1 (List.length x.2.1) c1] x.2.1) ∧ (Ty.rd w (.sl .str) [.slice A2 (List.length x.2.2.1) c2] x.2.2.1) ∧ (-9223372036854775808 ≤ x.2.2.2.1 ∧ x.2.2.2.1 ≤ 9223372036854775807) ∧ (-9223372036854775808 ≤ x.2.2.2.2 ∧ x.2.2.2.2 ≤ 9223372036854775807) := by
  obtain ⟨c0, r0, rfl, g0, q0⟩ := h
  obtain ⟨c1, r1, rfl, g1, q1⟩ := q0
  obtain ⟨c2, r2, rfl, g2, q2⟩ := q1
  obtain ⟨c3, r3, rfl, g3, q3⟩ := q2
  have g4 := q3
  obtain ⟨A0, c0, rfl⟩ := Ty.rd_slv g0
  obtain ⟨A1, c1, rfl⟩ := Ty.rd_slv g1
  obtain ⟨A2, c2, rfl⟩ := Ty.rd_slv g2
  obtain ⟨rfl, b3⟩ := g3
  obtain ⟨rfl, b4⟩ := g4
  exact ⟨A0, c0, A1, c1, A2, c2, rfl, g0, g1, g2, b3, b4⟩

theorem ow_Data {w : World} {cs : List Value} {x : tData.D} {fp : List Nat} (h : tData.ow w cs x fp) : ∃ (A0 : Option Addr) (c0 : Nat) (A1 : Option Addr) (c1 : Nat) (A2 : Option Addr) (c2 : Nat), cs = [.slice A0 (List.length x.1) c0, .slice A1 (List.length x.2.1) c1, .slice A2 (List.length x.2.2.1) c2, .int .i64 x.2.2.2.1, .int .i64 x.2.2.2.2] := by
  obtain ⟨c0, r0, f0, t0, rfl, _, g0, q0⟩ := h
  obtain ⟨c1, r1, f1, t1, rfl, _, g1, q1⟩ := q0
  obtain ⟨c2, r2, f2, t2, rfl, _, g2, q2⟩ := q1
  obtain ⟨c3, r3, f3, t3, rfl, _, g3, q3⟩ := q2
  have g4 := q3
  obtain ⟨A0, c0, rfl⟩ := Ty.ow_slv g0
  obtain ⟨A1, c1, rfl⟩ := Ty.ow_slv g1
  obtain ⟨A2, c2, rfl⟩ := Ty.ow_slv g2
  obtain ⟨⟨rfl, b3⟩, _⟩ := g3
  obtain ⟨⟨rfl, b4⟩, _⟩ := g4
  exact ⟨A0, c0, A1, c1, A2, c2, rfl⟩

abbrev tKey : Ty := (.pr (.sl .str) .int)
theorem rd_Key {w : World} {cs : List Value} {x : tKey.D} (h : tKey.rd w cs x) : ∃ (A0 : Option Addr) (c0 : Nat), cs = [.slice A0 (List.length x.1) c0, .int .i64 x.2] ∧ (Ty.rd w (.sl .str) [.slice A0 (List.length x.1) c0] x.1) ∧ (-9223372036854775808 ≤ x.2 ∧ x.2 ≤ 9223372036854775807) := by
  obtain ⟨c0, r0, rfl, g0, q0⟩ := h
  have g1 := q0
  obtain ⟨A0, c0, rfl⟩ := Ty.rd_slv g0
  obtain ⟨rfl, b1⟩ := g1
  exact ⟨A0, c0, rfl, g0, b1⟩

theorem info_Key : (Tryz.prog.info? 68).map (fun i => (i.zero, i.size, i.bytes)) = some (some (.agg #[.slice none 0 0, .int .i64 0]), 2, 32) := by kernel_rfl
end Go.Proofs.YtldgbnlcnlfmeaaGreat

/- Bounds on how many marks a result takes. No program in sight. -/
namespace Go.Proofs.YtldgbnlcnlfmeaaGreat
set_option linter.unusedVariables false
set_option linter.unusedSimpArgs false

theorem bulk_app {e : Ty} (x y : List e.D) : Ty.bulk (.sl e) (x ++ y) = Ty.bulk (.sl e) x + Ty.bulk (.sl e) y := by
  show (x ++ y).length + ((x ++ y).map (fun d => e.bulk d)).sum = (x.length + (x.map (fun d => e.bulk d)).sum) + (y.length + (y.map (fun d => e.bulk d)).sum)
  rw [List.length_append, List.map_append, List.sum_append]; omega
theorem bulk_one {e : Ty} (d : e.D) : Ty.bulk (.sl e) [d] = e.bulk d + 1 := by
  show 1 + ([d].map (fun d => e.bulk d)).sum = _
  simp; omega
theorem bulk_take {e : Ty} (x : List e.D) (k : Nat) : Ty.bulk (.sl e) (x.take k) ≤ Ty.bulk (.sl e) x := by
  have := bulk_app (e := e) (x.take k) (x.drop k)
  rw [List.take_append_drop] at this; omega
end Go.Proofs.YtldgbnlcnlfmeaaGreat

/- Texts parted at a byte; patterns and rules read out of texts, in the reference's way. No program in sight. -/
namespace Go.Proofs.YtldgbnlcnlfmeaaGreat
open Go.RowKit
set_option linter.unusedVariables false
set_option linter.unusedSimpArgs false

/-- The pieces of a text between the bytes c. -/
def spl (c : UInt8) : List UInt8 → List (List UInt8)
  | [] => [[]]
  | b :: l => if b = c then [] :: spl c l else match spl c l with
    | h :: t => (b :: h) :: t
    | [] => [[b]]
theorem spl_ne (c : UInt8) (l : List UInt8) : spl c l ≠ [] := by
  cases l with
  | nil => simp [spl]
  | cons b l => unfold spl; split; · simp
                split <;> simp
theorem spl_pos (c : UInt8) (s : List UInt8) : 0 < (spl c s).length := List.length_pos_iff.2 (spl_ne c s)
theorem spl_notin {c : UInt8} : ∀ {a : List UInt8}, c ∉ a → spl c a = [a]
  | [], _ => rfl
  | b :: a, h => by
    have h1 : b ≠ c := fun e => h (by simp [e])
    have h2 : c ∉ a := fun e => h (by simp [e])
    unfold spl; rw [if_neg h1, spl_notin h2]
theorem spl_app {c : UInt8} (r : List UInt8) : ∀ {a : List UInt8}, c ∉ a → spl c (a ++ c :: r) = a :: spl c r
  | [], _ => by show spl c (c :: r) = _; rw [spl]; simp
  | b :: a, h => by
    have h1 : b ≠ c := fun e => h (by simp [e])
    have h2 : c ∉ a := fun e => h (by simp [e])
    show spl c (b :: (a ++ c :: r)) = _
    rw [spl, if_neg h1, spl_app r h2]
/-- A name read out of a text. -/
def pnS (s : List UInt8) : List (List UInt8) × Bool :=
  if s = [47] then ([], true) else if decide (2 ≤ (spl 47 s).length) && decide ((spl 47 s).head? = some []) && validName (spl 47 s).tail then ((spl 47 s).tail, true) else ([], false)
theorem pnS_one {s : List UInt8} (h : s = [47]) : pnS s = ([], true) := by unfold pnS; rw [if_pos h]
theorem pnS_no {s : List UInt8} (h : ¬ s = [47]) (h2 : (decide (2 ≤ (spl 47 s).length) && decide ((spl 47 s).head? = some []) && validName (spl 47 s).tail) = false) : pnS s = ([], false) := by unfold pnS; rw [if_neg h, h2]; rfl
theorem pnS_yes {s : List UInt8} (h : ¬ s = [47]) (h2 : (decide (2 ≤ (spl 47 s).length) && decide ((spl 47 s).head? = some []) && validName (spl 47 s).tail) = true) : pnS s = ((spl 47 s).tail, true) := by unfold pnS; rw [if_neg h, if_pos h2]
end Go.Proofs.YtldgbnlcnlfmeaaGreat

/- Texts parted at a byte. -/
namespace Go.Proofs.YtldgbnlcnlfmeaaGreat
open Go.RowKit
set_option linter.unusedVariables false
set_option linter.unusedSimpArgs false

/-- How far the text is parted: up to place k, the piece at hand begun at f. -/
def splAt (c : UInt8) (s : List UInt8) (k f : Nat) (acc : List (List UInt8)) : Prop :=
  (k ≤ s.length ∧ f ≤ k ∧ acc.length ≤ k ∧ acc ++ spl c (s.drop f) = spl c s ∧ c ∉ (s.drop f).take (k - f)) ∨ (k = s.length + 1 ∧ f ≤ k ∧ acc.length ≤ k ∧ acc = spl c s)
theorem splAt_start (c : UInt8) (s : List UInt8) : splAt c s 0 0 [] := .inl ⟨by omega, by omega, by simp, by simp, by simp⟩
theorem splAt_no {c : UInt8} {s : List UInt8} {k f : Nat} {acc : List (List UInt8)} (h : splAt c s k f acc) (hk : k < s.length) (hc : ¬ s[k] = c) : splAt c s (k + 1) f acc := by
  rcases h with ⟨h1, h2, h3, h4, h5⟩ | ⟨h1, _⟩
  · refine .inl ⟨by omega, by omega, by omega, h4, ?_⟩
    have hd : k - f < (s.drop f).length := by rw [List.length_drop]; omega
    rw [show k + 1 - f = (k - f) + 1 from by omega, List.take_succ_eq_append_getElem hd]
    intro hm
    rcases List.mem_append.1 hm with hm | hm
    · exact h5 hm
    · have : (s.drop f)[k - f] = s[k] := by rw [List.getElem_drop]; congr 1; omega
      rw [this] at hm
      exact hc (by simpa using (List.mem_singleton.1 hm).symm)
  · omega
theorem splAt_yes {c : UInt8} {s : List UInt8} {k f : Nat} {acc : List (List UInt8)} (h : splAt c s k f acc) (hk : k < s.length) (hc : s[k] = c) : splAt c s (k + 1) (k + 1) (acc ++ [(s.drop f).take (k - f)]) := by
  rcases h with ⟨h1, h2, h3, h4, h5⟩ | ⟨h1, _⟩
  · refine .inl ⟨by omega, by omega, by simp; omega, ?_, by simp⟩
    have hd : k - f < (s.drop f).length := by rw [List.length_drop]; omega
    have e : s.drop f = (s.drop f).take (k - f) ++ c :: s.drop (k + 1) := by
      conv => lhs; rw [← List.take_append_drop (k - f) (s.drop f)]
      congr 1
      rw [List.drop_eq_getElem_cons hd, List.drop_drop, List.getElem_drop]
      congr 1
      · rw [← hc]; congr 1; omega
      · congr 1; omega
    rw [e, spl_app _ h5] at h4
    rw [← h4, List.append_assoc]; rfl
  · omega
theorem splAt_end {c : UInt8} {s : List UInt8} {f : Nat} {acc : List (List UInt8)} (h : splAt c s s.length f acc) : splAt c s (s.length + 1) (s.length + 1) (acc ++ [(s.drop f).take (s.length - f)]) := by
  rcases h with ⟨h1, h2, h3, h4, h5⟩ | ⟨h1, _⟩
  · refine .inr ⟨rfl, by omega, by simp; omega, ?_⟩
    rw [List.take_of_length_le (by rw [List.length_drop]; omega)] at h5 ⊢
    rw [← h4, spl_notin h5]
  · omega
theorem splAt_bd {c : UInt8} {s : List UInt8} {k f : Nat} {acc : List (List UInt8)} (h : splAt c s k f acc) : k ≤ s.length + 1 ∧ f ≤ k ∧ acc.length ≤ k := by
  rcases h with ⟨h1, h2, h3, _⟩ | ⟨h1, h2, h3, _⟩
  · exact ⟨by omega, h2, h3⟩
  · exact ⟨by omega, h2, h3⟩
theorem splAt_done {c : UInt8} {s : List UInt8} {k f : Nat} {acc : List (List UInt8)} (h : splAt c s k f acc) (hk : ¬ k ≤ s.length) : acc = spl c s := by
  rcases h with ⟨h1, _⟩ | ⟨_, _, _, h1⟩
  · omega
  · exact h1
theorem run_sub (P : Program) (t : TypeId) (ht : P.underlying t = some .string) (s : List UInt8) (a b : Nat) (h : a ≤ b) (hb : b ≤ s.length) (W : World) :
    (Instr.slice t (.string ⟨s.toArray⟩) (some (.int .i64 a)) (some (.int .i64 b)) none).run P W = .ok (vS ((s.drop a).take (b - a))) W := by
  have := run_slice_string (P := P) W t ⟨s.toArray⟩ .i64 .i64 a b ht (by omega) (by omega) (by show (b : Int) ≤ (s.toArray.size : Int); simp; omega)
  rw [this]
  show Result.ok (Value.string ((ByteArray.mk s.toArray).extract a b)) W = _
  rw [ByteArray.extract_mk]
set_option maxHeartbeats 4000000 in
theorem C_spec_l4Split (w : World) (s : List UInt8) (c : UInt8) (hs : s.length ≤ 1000000000) :
    Calls Tryz.prog 153 #[vS s, .int .u8 (c.toNat : Int)] w (RetRow flatS w 9 (spl c s)) := by
  go_enter Tryz.func153, Tryz.ntmps153
  go_wp2
  go_loopw [5, 6, 7] (fun vv fr i wr => ∃ (k f : Nat) (acc : List (List UInt8)), i = .int .i64 k ∧ fr = .int .i64 f ∧ Row flatS wr w.heap.size 9 vv acc ∧ Hid (splAt c s k f acc) ∧ Below w.heap.size w wr) (fun _ _ i _ => s.length + 1 - (intOf i).toNat)
  case atStart => exact ⟨0, 0, [], by first | rfl | simp, by first | rfl | simp, Row.lit0 flatS w _ (Nat.le_refl _), Lib.hid (splAt_start c s), (by repeat' (first | (with_reducible exact Below.refl _ _) | (with_reducible assumption) | (with_reducible refine bel_set ?_ (by (try dsimp only); omega) _) | (with_reducible refine bel_alloc ?_ _) | (with_reducible refine bel_drewN ?_ _) | (with_reducible refine bel_drew ?_)))⟩
  case round =>
    obtain ⟨k, f, acc, rfl, rfl, hr, hA, hb⟩ := hrel
    have HRow := Lib.hid hr
    obtain ⟨h1, h2, h3⟩ := splAt_bd hA.out
    clear hr
    by_cases hle : k ≤ s.length
    · have hap : ∀ (W : World), (Instr.slice 9 (.string ⟨s.toArray⟩) (some (.int .i64 f)) (some (.int .i64 k)) none).run Tryz.prog W = .ok (vS ((s.drop f).take (k - f))) W := fun W => run_sub _ _ Tryz.underlying9 s f k h2 hle W
      have HX : Hid (((s.drop f).take (k - f)).length ≤ 9223372036854775807) := by unfold Hid; rw [List.length_take, List.length_drop]; omega
      generalize hxx : (s.drop f).take (k - f) = x at hap HX
      have HLX := Lib.hid (Row.lit1 flatS wr 9 x HX.out (Nat.le_refl _))
      by_cases hlt : k < s.length
      · have HY := Lib.hid (fun hc : s[k] = c => splAt_yes hA.out hlt hc)
        rw [hxx] at HY
        have HN := Lib.hid (fun hc : ¬ s[k] = c => splAt_no hA.out hlt hc)
        have HC : Hid (∀ b : Bool, ((({ data := s.toArray } : ByteArray)[k]'(by show k < s.toArray.size; simpa using hlt)).toNat == (c.toNat : Int)) = b → (b = true → s[k] = c) ∧ (b = false → ¬ s[k] = c)) := by
          intro b hb
          have hb' : ((s[k].toNat : Int) == (c.toNat : Int)) = b := hb
          refine ⟨fun e => ?_, fun e => ?_⟩
          · subst e; exact UInt8.toNat_inj.1 (by have := beq_iff_eq.1 hb'; omega)
          · subst e; intro e2; rw [e2] at hb'; simp at hb'
        have hL : (k : Int) ≠ s.length := by omega
        clear hxx
        set_option maxRecDepth 100000 in go_wp2_with (at_builtin; go_loud (refine wpList_append_row rfl _ _ 30 rfl flatS w.heap.size 9 info_str rfl Tryz.underlying30 _ _ acc [x] rfl rfl (HRow.out.below (by repeat' (first | (with_reducible exact Below.refl _ _) | (with_reducible assumption) | (with_reducible refine bel_set ?_ (by (try dsimp only); omega) _) | (with_reducible refine bel_alloc ?_ _) | (with_reducible refine bel_drewN ?_ _) | (with_reducible refine bel_drew ?_)))) (HLX.out.rd (by (try simp only [World.size_alloc, World.size_setCell, size_drewN, World.size_drew]); omega)) ?_ ?_ ?_ ?_))
        case refine_1 => rw [List.length_singleton]; omega
        case refine_2 => rw [List.length_singleton]; unfold maxLen; omega
        case refine_3 => simp only [World.size_alloc]; have := hb.size; omega
        · rename_i hh _ hK
          have HY2 := Lib.hid (HY.out ((HC.out _ (hh.resolve_left (by simp; omega))).1 rfl))
          intro v' w' hr' hg'
          have hb' : Below w.heap.size w w' := bel_grown (bel_alloc hb _) (by simp only [World.size_alloc]; have := hb.size; omega) hg' (fun g hg => (HRow.out.block g hg).1)
          have HR' := Lib.hid hr'
          clear hr'
          go_wp2
          go_roundw
          case rel => exact ⟨k + 1, k + 1, acc ++ [x], by go_num, by first | rfl | go_num, HR'.out, Lib.hid HY2.out, hb'⟩
          case measure => simp [intOf] <;> omega
        · rename_i hh
          have HN2 := Lib.hid (HN.out ((HC.out _ hh.2).2 rfl))
          refine ⟨⟨k + 1, f, acc, by go_num, rfl, HRow.out, Lib.hid HN2.out, hb⟩, ?_⟩
          simp [intOf] <;> omega
      · obtain rfl : k = s.length := by omega
        have HN := Lib.hid (splAt_end hA.out)
        rw [hxx] at HN
        clear hxx
        set_option maxRecDepth 100000 in go_wp2_with (at_builtin; go_loud (refine wpList_append_row rfl _ _ 30 rfl flatS w.heap.size 9 info_str rfl Tryz.underlying30 _ _ acc [x] rfl rfl (HRow.out.below (by repeat' (first | (with_reducible exact Below.refl _ _) | (with_reducible assumption) | (with_reducible refine bel_set ?_ (by (try dsimp only); omega) _) | (with_reducible refine bel_alloc ?_ _) | (with_reducible refine bel_drewN ?_ _) | (with_reducible refine bel_drew ?_)))) (HLX.out.rd (by (try simp only [World.size_alloc, World.size_setCell, size_drewN, World.size_drew]); omega)) ?_ ?_ ?_ ?_))
        case refine_1 => rw [List.length_singleton]; omega
        case refine_2 => rw [List.length_singleton]; unfold maxLen; omega
        case refine_3 => simp only [World.size_alloc]; have := hb.size; omega
        intro v' w' hr' hg'
        have hb' : Below w.heap.size w w' := bel_grown (bel_alloc hb _) (by simp only [World.size_alloc]; have := hb.size; omega) hg' (fun g hg => (HRow.out.block g hg).1)
        have HR' := Lib.hid hr'
        clear hr'
        go_wp2
        go_roundw
        case rel => exact ⟨s.length + 1, s.length + 1, acc ++ [x], by go_num, by first | rfl | go_num, HR'.out, Lib.hid HN.out, hb'⟩
        case measure => simp [intOf] <;> omega
    · have HE := Lib.hid (splAt_done hA.out hle)
      go_wp2
      go_ret
      obtain rfl := HE.out
      exact ⟨_, rfl, HRow.out, hb⟩
end Go.Proofs.YtldgbnlcnlfmeaaGreat

/- Comparing names. -/
namespace Go.Proofs.YtldgbnlcnlfmeaaGreat
open Go.RowKit
set_option linter.unusedVariables false
set_option linter.unusedSimpArgs false

theorem bytesLess_irrefl : ∀ l : List UInt8, Op.bytesLess l l = false
  | [] => rfl
  | a :: l => by simp [Op.bytesLess, bytesLess_irrefl l]

set_option maxHeartbeats 400000 in
theorem C_spec_l4Cmp (w : World) (a b : List UInt8) :
    Calls Tryz.prog 154 #[vS a, vS b] w fun e w' => ∃ n : Int, e = .returned (.int .i64 n) ∧ (n = 0 ↔ a = b) ∧ Below w.heap.size w w' := by
  go_enter Tryz.func154, Tryz.ntmps154
  go_wp2
  all_goals go_ret
  · rename_i h
    exact ⟨-1, rfl, by (refine ⟨fun h0 => by omega, fun h0 => ?_⟩); subst h0; simp [bytesLess_irrefl] at h, Below.refl _ _⟩
  · rename_i h
    exact ⟨1, rfl, by (refine ⟨fun h0 => by omega, fun h0 => ?_⟩); subst h0; simp at h, Below.refl _ _⟩
  · rename_i h
    exact ⟨0, rfl, by simpa using h, Below.refl _ _⟩

set_option maxHeartbeats 1000000 in
theorem C_spec_CompareNames (w : World) (cs1 cs2 : List Value) (x y : List (List UInt8)) (h1 : (Ty.sl .str).rd w cs1 x) (h2 : (Ty.sl .str).rd w cs2 y) :
    Calls Tryz.prog 118 #[.agg cs1.toArray, .agg cs2.toArray] w fun e w' => ∃ n : Int, e = .returned (.int .i64 n) ∧ (n = 0 ↔ x = y) ∧ Below w.heap.size w w' := by
  obtain ⟨s1, rfl⟩ := List.length_eq_one_iff.1 (Ty.rd_len h1)
  obtain ⟨s2, rfl⟩ := List.length_eq_one_iff.1 (Ty.rd_len h2)
  obtain ⟨A1, c1, rfl, hc1, hm1, hn1⟩ := Ty.rd_sl h1
  obtain ⟨A2, c2, rfl, hc2, hm2, hn2⟩ := Ty.rd_sl h2
  go_enter Tryz.func118, Tryz.ntmps118
  go_wp2
  go_loopw [5] (fun i wr => ∃ k : Nat, k ≤ x.length ∧ k ≤ y.length ∧ i = .int .i64 k ∧ x.take k = y.take k ∧ Below ((w.alloc (.cells #[.slice A1 x.length c1] 32)).alloc (.cells #[.slice A2 y.length c2] 32)).heap.size ((w.alloc (.cells #[.slice A1 x.length c1] 32)).alloc (.cells #[.slice A2 y.length c2] 32)) wr) (fun i _ => x.length - (intOf i).toNat)
  case atStart => exact ⟨0, by omega, by omega, rfl, rfl, Below.refl _ _⟩
  case round =>
    obtain ⟨k, hk1, hk2, rfl, htk, hb⟩ := hrel
    have hw : Below w.heap.size w wr := bel_trans (by repeat' (first | (with_reducible exact Below.refl _ _) | (with_reducible assumption) | (with_reducible refine bel_set ?_ (by (try dsimp only); omega) _) | (with_reducible refine bel_alloc ?_ _) | (with_reducible refine bel_drewN ?_ _) | (with_reducible refine bel_drew ?_))) hb
    obtain ⟨hc, hf⟩ := bcell hb
    have HT := Lib.hid htk
    clear htk
    by_cases hl1 : k < x.length
    · by_cases hl2 : k < y.length
      · obtain ⟨b1, o1, rfl, e1, _⟩ := Ty.rd_str_at (Ty.rd_below hw h1) hl1
        obtain ⟨b2, o2, rfl, e2, _⟩ := Ty.rd_str_at (Ty.rd_below hw h2) hl2
        go_wp2_with fail
        set_option maxRecDepth 100000 in go_still_tail 10, (by kernel_rfl)
        go_wp2_with fail
        refine (C_spec_l4Cmp _ _ _).mono ?_
        rintro e w1 ⟨n, rfl, hn, hb1⟩
        have hb2 : Below ((w.alloc (.cells #[.slice (some ⟨b1, o1, none⟩) x.length c1] 32)).alloc (.cells #[.slice (some ⟨b2, o2, none⟩) y.length c2] 32)).heap.size ((w.alloc (.cells #[.slice (some ⟨b1, o1, none⟩) x.length c1] 32)).alloc (.cells #[.slice (some ⟨b2, o2, none⟩) y.length c2] 32)) w1 := bel_trans (bel_drew hb) hb1
        have hw1 : Below w.heap.size w w1 := bel_trans (by repeat' (first | (with_reducible exact Below.refl _ _) | (with_reducible assumption) | (with_reducible refine bel_set ?_ (by (try dsimp only); omega) _) | (with_reducible refine bel_alloc ?_ _) | (with_reducible refine bel_drewN ?_ _) | (with_reducible refine bel_drew ?_))) hb2
        have HN := Lib.hid hn
        clear hn
        by_cases hn0 : n = 0
        · have q1 : (n != 0) = false := by simp [hn0]
          have HZ := Lib.hid (HN.out.1 hn0)
          clear hn0
          go_wp2
          go_roundw
          case rel => exact ⟨k + 1, by omega, by omega, by go_num, by rw [List.take_succ_eq_append_getElem hl1, List.take_succ_eq_append_getElem hl2, HT.out, HZ.out], hb2⟩
          case measure => simp [intOf]; omega
        · have q1 : (n != 0) = true := by simp [hn0]
          have HZ : Hid (¬ x = y) := fun h => hn0 (HN.out.2 (by subst h; rfl))
          clear hn0
          go_wp2
          go_ret
          exact ⟨n, rfl, ⟨fun h => absurd h (by simpa using q1), fun h => absurd h HZ.out⟩, hw1⟩
      · have hky : k = y.length := by omega
        have HE : Hid (x.length = y.length → x = y) := fun h => by
          have := HT.out
          rwa [hky, List.take_length, ← h, List.take_length] at this
        clear hky
        go_wp2
        all_goals go_ret
        all_goals first
          | exact ⟨-1, rfl, ⟨fun h => by omega, fun h => by (have := congrArg List.length h; omega)⟩, hw⟩
          | exact ⟨1, rfl, ⟨fun h => by omega, fun h => by (have := congrArg List.length h; omega)⟩, hw⟩
          | exact ⟨0, rfl, ⟨fun _ => HE.out (by omega), fun _ => rfl⟩, hw⟩
    · have hkx : k = x.length := by omega
      have HE : Hid (x.length = y.length → x = y) := fun h => by
        have := HT.out
        rwa [hkx, List.take_length, h, List.take_length] at this
      clear hkx
      go_wp2
      all_goals go_ret
      all_goals first
        | exact ⟨-1, rfl, ⟨fun h => by omega, fun h => by (have := congrArg List.length h; omega)⟩, hw⟩
        | exact ⟨1, rfl, ⟨fun h => by omega, fun h => by (have := congrArg List.length h; omega)⟩, hw⟩
        | exact ⟨0, rfl, ⟨fun _ => HE.out (by omega), fun _ => rfl⟩, hw⟩

set_option maxHeartbeats 1000000 in
theorem C_spec_EqualNames (w : World) (cs1 cs2 : List Value) (x y : List (List UInt8)) (h1 : (Ty.sl .str).rd w cs1 x) (h2 : (Ty.sl .str).rd w cs2 y) :
    Calls Tryz.prog 71 #[.agg cs1.toArray, .agg cs2.toArray] w (RetB w (decide (x = y))) := by
  obtain ⟨s1, rfl⟩ := List.length_eq_one_iff.1 (Ty.rd_len h1)
  obtain ⟨s2, rfl⟩ := List.length_eq_one_iff.1 (Ty.rd_len h2)
  go_enter Tryz.func71, Tryz.ntmps71
  go_wp2_with fail
  refine (C_spec_CompareNames _ _ _ _ _ (Ty.rd_below (by repeat' (first | (with_reducible exact Below.refl _ _) | (with_reducible assumption) | (with_reducible refine bel_set ?_ (by (try dsimp only); omega) _) | (with_reducible refine bel_alloc ?_ _) | (with_reducible refine bel_drewN ?_ _) | (with_reducible refine bel_drew ?_))) h1) (Ty.rd_below (by repeat' (first | (with_reducible exact Below.refl _ _) | (with_reducible assumption) | (with_reducible refine bel_set ?_ (by (try dsimp only); omega) _) | (with_reducible refine bel_alloc ?_ _) | (with_reducible refine bel_drewN ?_ _) | (with_reducible refine bel_drew ?_))) h2)).mono ?_
  rintro e w1 ⟨n, rfl, hn, hb1⟩
  have hw1 : Below w.heap.size w w1 := bel_trans (by repeat' (first | (with_reducible exact Below.refl _ _) | (with_reducible assumption) | (with_reducible refine bel_set ?_ (by (try dsimp only); omega) _) | (with_reducible refine bel_alloc ?_ _) | (with_reducible refine bel_drewN ?_ _) | (with_reducible refine bel_drew ?_))) hb1
  have HN := Lib.hid hn
  clear hn
  go_wp2
  go_ret
  exact ⟨ret_bool (by rw [Bool.eq_iff_iff]; simp [HN.out]), hw1⟩

set_option maxHeartbeats 1000000 in
theorem C_slices_Equal_str (w : World) (v1 v2 : Value) (x y : List (List UInt8)) (h1 : (Ty.sl .str).rd w [v1] x) (h2 : (Ty.sl .str).rd w [v2] y) :
    Calls Tryz.prog 117 #[v1, v2] w (RetB w (decide (x = y))) := by
  obtain ⟨A1, c1, rfl, hc1, hm1, hn1⟩ := Ty.rd_sl h1
  obtain ⟨A2, c2, rfl, hc2, hm2, hn2⟩ := Ty.rd_sl h2
  by_cases hl : x.length = y.length
  · have q1 : ((x.length : Int) != y.length) = false := by simp [hl]
    have HL := Lib.hid hl
    clear hl
    go_enter Tryz.func117, Tryz.ntmps117
    go_wp2
    go_loopw [13] (fun i wr => ∃ k : Nat, k ≤ x.length ∧ i = .int .i64 k ∧ x.take k = y.take k ∧ Below w.heap.size w wr) (fun i _ => x.length - (intOf i).toNat)
    case atStart => exact ⟨0, by omega, rfl, rfl, Below.refl _ _⟩
    case round =>
      obtain ⟨k, hk, rfl, htk, hb⟩ := hrel
      have HT := Lib.hid htk
      clear htk
      by_cases hlt : k < x.length
      · have hlt2 : k < y.length := by have := HL.out; omega
        obtain ⟨b1, o1, rfl, e1, _⟩ := Ty.rd_str_at (Ty.rd_below hb h1) hlt
        obtain ⟨b2, o2, rfl, e2, _⟩ := Ty.rd_str_at (Ty.rd_below hb h2) hlt2
        by_cases he : x[k] = y[k]
        · have q2 : (!x[k] == y[k]) = false := by simp [he]
          have HE := Lib.hid he
          clear he
          go_wp2
          go_quiet (fail)
          go_wp2
          go_roundw
          case rel => exact ⟨k + 1, by omega, by go_num, by rw [List.take_succ_eq_append_getElem hlt, List.take_succ_eq_append_getElem hlt2, HT.out, HE.out], bel_drewN hb _⟩
          case measure => simp [intOf]; omega
        · have q2 : (!x[k] == y[k]) = true := by simp [he]
          have HE : Hid (¬ x = y) := fun h => he (by subst h; rfl)
          clear he
          go_wp2
          go_quiet (fail)
          go_wp2
          go_ret
          exact ⟨ret_bool (by simp [HE.out]), bel_drewN hb _⟩
      · have HE : Hid (x = y) := by
          have h1 := HT.out
          rwa [List.take_of_length_le (by omega), List.take_of_length_le (by have := HL.out; omega)] at h1
        go_wp2
        go_ret
        exact ⟨ret_bool (by simp [HE.out]), hb⟩
  · have q1 : ((x.length : Int) != y.length) = true := by rw [bne_iff_ne]; omega
    have HE : Hid (¬ x = y) := fun h => hl (congrArg List.length h)
    go_enter Tryz.func117, Tryz.ntmps117
    go_wp2
    go_ret
    exact ⟨ret_bool (by simp [HE.out]), Below.refl _ _⟩
end Go.Proofs.YtldgbnlcnlfmeaaGreat
