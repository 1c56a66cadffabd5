/- The common words of the proofs: how data read in memory (Ty, rd), what a call owns (ow), and small lemmas. No program in sight. -/
import Derived.WalkKit
import Derived.WalkSpells
import Derived.Lib.Hide
import Derived.Deep.QuietTactic
import Derived.BigQuiet
namespace Go.Proofs.Ytldgbnlcnlfmeaa
open Go.RowKit
set_option linter.unusedVariables false
set_option linter.unusedSimpArgs false

/-- The shapes of data that occur: integers, bytes, bools, strings, slices, and the fields of a struct one behind the other. -/
inductive Ty where
  | int | byte | bool | str
  | sl (e : Ty)
  | pr (a b : Ty)

@[reducible] def Ty.D : Ty → Type
  | .int => Int
  | .byte => UInt8
  | .bool => Bool
  | .str => List UInt8
  | .sl e => List e.D
  | .pr a b => a.D × b.D

/-- How many cells a value takes. -/
def Ty.sz : Ty → Nat
  | .pr a b => a.sz + b.sz
  | _ => 1

def rdInt (cs : List Value) (n : Int) : Prop := cs = [.int .i64 n] ∧ -9223372036854775808 ≤ n ∧ n ≤ 9223372036854775807
def rdByte (cs : List Value) (n : UInt8) : Prop := cs = [.int .u8 (n.toNat : Int)]
def rdBool (cs : List Value) (b : Bool) : Prop := cs = [.bool b]
/-- A string's value out of its bytes. -/
abbrev vS (s : List UInt8) : Value := .string ⟨s.toArray⟩
def rdStr (cs : List Value) (s : List UInt8) : Prop := cs = [vS s] ∧ s.length ≤ 9223372036854775807
def rdSl {α : Type} (w : World) (sz : Nat) (rd : List Value → α → Prop) (cs : List Value) (x : List α) : Prop :=
  ∃ A c, cs = [.slice A x.length c] ∧ x.length ≤ c ∧ (c ≤ maxLen ∧ (A = none → c = 0)) ∧ x.length ≤ 9223372036854775807 ∧
    (0 < x.length → ∃ b o, A = some ⟨b, o, none⟩ ∧
      ∀ i (h : i < x.length), ∃ ds : List Value, ds.length = sz ∧ (∀ j, j < sz → w.cell? ⟨b, o + i * sz + j, none⟩ = ds[j]?) ∧ rd ds x[i])
/-- The cells read as the datum. -/
def Ty.rd (w : World) : (t : Ty) → List Value → t.D → Prop
  | .int, cs, x => rdInt cs x
  | .byte, cs, x => rdByte cs x
  | .bool, cs, x => rdBool cs x
  | .str, cs, x => rdStr cs x
  | .sl e, cs, x => rdSl w e.sz (fun ds d => e.rd w ds d) cs x
  | .pr a b, cs, x => ∃ c1 c2, cs = c1 ++ c2 ∧ a.rd w c1 x.1 ∧ b.rd w c2 x.2

def owSl {α : Type} (w : World) (sz : Nat) (ow : List Value → α → List Nat → Prop) (cs : List Value) (x : List α) (fp : List Nat) : Prop :=
  ∃ A c, cs = [.slice A x.length c] ∧ x.length ≤ c ∧ (c ≤ maxLen ∧ (A = none → c = 0)) ∧ x.length ≤ 9223372036854775807 ∧
    ((x.length = 0 ∧ fp = []) ∨
     (0 < x.length ∧ ∃ b o, ∃ fs : Nat → List Nat, A = some ⟨b, o, none⟩ ∧ fp = b :: (List.range x.length).flatMap fs ∧
      ∀ i (h : i < x.length), ∃ ds : List Value, ds.length = sz ∧
        (∀ j, j < sz → w.cell? ⟨b, o + i * sz + j, none⟩ = ds[j]? ∧ w.frozen? ⟨b, o + i * sz + j, none⟩ = false) ∧ ow ds x[i] (fs i)))
/-- The cells read as the datum, in the blocks fp alone, each block of one slice, every cell free to be written. -/
def Ty.ow (w : World) : (t : Ty) → List Value → t.D → List Nat → Prop
  | .sl e, cs, x, fp => owSl w e.sz (fun ds d f => e.ow w ds d f) cs x fp
  | .pr a b, cs, x, fp => ∃ c1 c2 f1 f2, cs = c1 ++ c2 ∧ fp = f1 ++ f2 ∧ a.ow w c1 x.1 f1 ∧ b.ow w c2 x.2 f2
  | .int, cs, x, fp => rdInt cs x ∧ fp = []
  | .byte, cs, x, fp => rdByte cs x ∧ fp = []
  | .bool, cs, x, fp => rdBool cs x ∧ fp = []
  | .str, cs, x, fp => rdStr cs x ∧ fp = []

theorem Ty.rd_len {w : World} : ∀ {t : Ty} {cs : List Value} {x : t.D}, t.rd w cs x → cs.length = t.sz
  | .int, _, _, h => by rw [h.1]; rfl
  | .byte, _, _, h => by rw [show _ = _ from h]; rfl
  | .bool, _, _, h => by rw [show _ = _ from h]; rfl
  | .str, _, _, h => by rw [h.1]; rfl
  | .sl _, _, _, ⟨_, _, h, _⟩ => by rw [h]; rfl
  | .pr a b, _, _, ⟨c1, c2, h, h1, h2⟩ => by
    rw [h, List.length_append, Ty.rd_len h1, Ty.rd_len h2]; rfl

/-- What is read stays as long as the blocks that were there stay. -/
theorem Ty.rd_below {w w' : World} (hb : Below w.heap.size w w') : ∀ {t : Ty} {cs : List Value} {x : t.D}, t.rd w cs x → t.rd w' cs x
  | .int, _, _, h => h
  | .byte, _, _, h => h
  | .bool, _, _, h => h
  | .str, _, _, h => h
  | .sl e, _, _, ⟨A, c, h1, h2, h3, h4, h5⟩ => ⟨A, c, h1, h2, h3, h4, fun hn => by
      obtain ⟨b, o, hA, hc⟩ := h5 hn
      refine ⟨b, o, hA, fun i hi => ?_⟩
      obtain ⟨ds, hl, hcell, hr⟩ := hc i hi
      refine ⟨ds, hl, fun j hj => ?_, Ty.rd_below hb hr⟩
      have hv : w.cell? ⟨b, o + i * e.sz + j, none⟩ = some (ds[j]'(by omega)) := by rw [hcell j hj]; exact List.getElem?_eq_getElem (by omega)
      have hlt : b < w.heap.size := World.block_lt_of_cell? w _ hv
      rw [hb.cell (p := ⟨b, o + i * e.sz + j, none⟩) hlt]
      exact hcell j hj⟩
  | .pr _ _, _, _, ⟨c1, c2, h, h1, h2⟩ => ⟨c1, c2, h, Ty.rd_below hb h1, Ty.rd_below hb h2⟩

/-- The blocks fp lie between two numbers, and each stands once. -/
def FrI (lo hi : Nat) (fp : List Nat) : Prop := fp.Nodup ∧ ∀ b ∈ fp, lo ≤ b ∧ b < hi
theorem FrI.nil (lo hi : Nat) : FrI lo hi [] := ⟨List.nodup_nil, fun b hb => absurd hb (by simp)⟩
theorem FrI.mono {lo hi lo' hi' : Nat} {fp : List Nat} (h : FrI lo hi fp) (h1 : lo' ≤ lo) (h2 : hi ≤ hi') : FrI lo' hi' fp := ⟨h.1, fun b hb => by have := h.2 b hb; omega⟩
theorem FrI.app {lo m m' hi : Nat} {f g : List Nat} (h1 : FrI lo m f) (h2 : FrI m' hi g) (h12 : m ≤ m') (hlo : lo ≤ m') (hhi : m ≤ hi) : FrI lo hi (f ++ g) := by
  refine ⟨List.nodup_append.2 ⟨h1.1, h2.1, fun a ha b hb => ?_⟩, fun b hb => ?_⟩
  · have := h1.2 a ha; have := h2.2 b hb; omega
  · rcases List.mem_append.1 hb with hb | hb
    · have := h1.2 b hb; omega
    · have := h2.2 b hb; omega
/-- The blocks fp are new behind w, and each stands once. -/
abbrev Fr (w w' : World) (fp : List Nat) : Prop := FrI w.heap.size w'.heap.size fp
theorem Fr.later {w w1 w2 w3 : World} {fp : List Nat} (h : Fr w1 w2 fp) (h1 : Below w.heap.size w w1) (h2 : w2.heap.size ≤ w3.heap.size) : Fr w w3 fp := h.mono h1.size h2
theorem Fr.mk_ {w w' : World} {n g : Nat} {l : List Nat} (h1 : w.heap.size ≤ g) (h2 : g < w'.heap.size) (hl : l.Nodup) (h3 : ∀ b ∈ l, g < b ∧ b < w'.heap.size) : Fr w w' (if n = 0 then [] else g :: l) := by
  by_cases h0 : n = 0
  · rw [if_pos h0]; exact ⟨List.nodup_nil, fun b hb => absurd hb (by simp)⟩
  · rw [if_neg h0]
    refine ⟨List.nodup_cons.2 ⟨fun hg => absurd (h3 g hg).1 (Nat.lt_irrefl g), hl⟩, fun b hb => ?_⟩
    rcases List.mem_cons.1 hb with rfl | hb
    · exact ⟨h1, h2⟩
    · have := h3 b hb; omega
theorem Fr.leaf {w w' : World} {n m g : Nat} (h1 : w.heap.size ≤ g) (h2 : g < w'.heap.size) : Fr w w' (if n = 0 then [] else g :: (List.range m).flatMap fun _ => []) := by
  have e : ((List.range m).flatMap fun _ => ([] : List Nat)) = [] := by simp
  rw [e]
  exact Fr.mk_ h1 h2 List.nodup_nil (fun b hb => absurd hb (by simp))
/-- A call that hands back a slice in memory of its own. -/
def RetSl (w : World) (t : Ty) (x : List t.D) (e : Ending) (w' : World) : Prop :=
  ∃ A c fp, e = .returned (.slice A x.length c) ∧ (Ty.sl t).ow w' [.slice A x.length c] x fp ∧ Fr w w' fp ∧ Below w.heap.size w w'
/-- A call that hands back a struct, whose slices lie in memory of its own. -/
def RetAgg (w : World) (t : Ty) (x : t.D) (e : Ending) (w' : World) : Prop :=
  ∃ cs fp, e = .returned (.agg cs.toArray) ∧ t.ow w' cs x fp ∧ Fr w w' fp ∧ Below w.heap.size w w'

/-- Block g is known whole, none of it frozen. -/
def Blk (w : World) (g : Nat) (t : TypeId) (cs : Array Value) : Prop := w.heap[g]? = some (.cells cs t (0, 0))
section
variable {w w' : World} {g : Nat} {t : TypeId} {cs : Array Value}
theorem Blk.lt (h : Blk w g t cs) : g < w.heap.size := by
  rcases Nat.lt_or_ge g w.heap.size with hlt | hge
  · exact hlt
  · unfold Blk at h; rw [Array.getElem?_eq_none hge] at h; cases h
theorem Blk.cell (h : Blk w g t cs) (i : Nat) : w.cell? ⟨g, i, none⟩ = cs[i]? := cell_of_row w g i cs t (0, 0) h
theorem Blk.frozen (h : Blk w g t cs) (i : Nat) : w.frozen? ⟨g, i, none⟩ = false := by
  unfold Blk at h
  simp [World.frozen?, h]
theorem Blk.new (w : World) (t : TypeId) (cs : Array Value) : Blk (w.alloc (.cells cs t)) w.heap.size t cs := heap_alloc_new w _
theorem cell_new (w : World) (t : TypeId) (cs : Array Value) (i : Nat) {g : Nat} (hg : g = w.heap.size) : (w.alloc (.cells cs t)).cell? ⟨g, i, none⟩ = cs[i]? := by
  subst hg; exact (Blk.new w t cs).cell i
theorem Blk.drew (h : Blk w g t cs) : Blk w.drew g t cs := h
theorem Blk.drewN (h : Blk w g t cs) (n : Nat) : Blk (w.drewN n) g t cs := h
theorem Blk.alloc (h : Blk w g t cs) (o : Obj) : Blk (w.alloc o) g t cs := (Below.heap_alloc w o g h.lt).trans h
theorem Blk.set_ (h : Blk w g t cs) (i : Nat) (u : Value) : Blk (w.setCell ⟨g, i, none⟩ u) g t (cs.setIfInBounds i u) := by
  unfold Blk at h ⊢
  simp [World.setCell, Array.getElem?_modify, h]
theorem Blk.far (h : Blk w g t cs) {p : Addr} (hp : g ≠ p.block) (u : Value) : Blk (w.setCell p u) g t cs := (Below.heap_setCell w p u g hp).trans h
theorem Blk.below {B : Nat} (h : Blk w g t cs) (hb : Below B w w') (hg : g < B) : Blk w' g t cs := (hb.block g hg).trans h
theorem Blk.grown {row : Option Nat} (h : Blk w g t cs) (hb : w.grownBy w' row) (hg : some g ≠ row) : Blk w' g t cs := (hb.block g h.lt hg).trans h
end

/-- A slice in a block of its own. -/
theorem Ty.ow_mk {w : World} {e : Ty} {g o c : Nat} {t : TypeId} {cur : Array Value} {xs : List e.D} (fs : Nat → List Nat) (hb : Blk w g t cur) (hc : xs.length ≤ c) (hm : c ≤ maxLen) (hn : xs.length ≤ 9223372036854775807)
    (h : ∀ i (hi : i < xs.length), ∃ ds : List Value, ds.length = e.sz ∧ (∀ j, j < e.sz → cur[o + i * e.sz + j]? = ds[j]?) ∧ e.ow w ds xs[i] (fs i)) :
    (Ty.sl e).ow w [.slice (some ⟨g, o, none⟩) xs.length c] xs (if xs.length = 0 then [] else g :: (List.range xs.length).flatMap fs) := by
  refine ⟨_, c, rfl, hc, ⟨hm, fun h => by cases h⟩, hn, ?_⟩
  by_cases h0 : xs.length = 0
  · left
    exact ⟨h0, if_pos h0⟩
  · right
    refine ⟨by show 0 < xs.length; omega, g, o, fs, rfl, if_neg h0, fun i hi => ?_⟩
    obtain ⟨ds, h1, h2, h3⟩ := h i hi
    exact ⟨ds, h1, fun j hj => ⟨(hb.cell _).trans (h2 j hj), hb.frozen _⟩, h3⟩

/-- A call that only computes a bool. -/
def RetB (w : World) (b : Bool) (e : Ending) (w' : World) : Prop := e = .returned (.bool b) ∧ Below w.heap.size w w'
/-- A call that only computes an int. -/
def RetI (w : World) (n : Int) (e : Ending) (w' : World) : Prop := e = .returned (.int .i64 n) ∧ Below w.heap.size w w'

theorem size_drewN (w : World) (n : Nat) : (w.drewN n).heap.size = w.heap.size := rfl
theorem bel_alloc {w w1 : World} (h : Below w.heap.size w w1) (o : Obj) : Below w.heap.size w (w1.alloc o) := h.alloc h.size o
theorem bel_trans {w w1 w2 : World} (h : Below w.heap.size w w1) (k : Below w1.heap.size w1 w2) : Below w.heap.size w w2 := h.trans (k.mono h.size)
theorem bel_set {w w1 : World} (h : Below w.heap.size w w1) {p : Addr} (hp : w.heap.size ≤ p.block) (u : Value) : Below w.heap.size w (w1.setCell p u) := h.setCell hp u
theorem bel_drewN {w w1 : World} (h : Below w.heap.size w w1) (n : Nat) : Below w.heap.size w (w1.drewN n) := ⟨h.os, h.tape, h.output, h.size, h.block⟩
theorem bel_drew {w w1 : World} (h : Below w.heap.size w w1) : Below w.heap.size w w1.drew := ⟨h.os, h.tape, h.output, h.size, h.block⟩
/-- Behind a call that leaves the old blocks: old cells and old marks read as before. -/
theorem bcell {W w1 : World} (hb : Below W.heap.size W w1) : (∀ b o, b < W.heap.size → w1.cell? ⟨b, o, none⟩ = W.cell? ⟨b, o, none⟩) ∧ (∀ b o, b < W.heap.size → w1.frozen? ⟨b, o, none⟩ = W.frozen? ⟨b, o, none⟩) :=
  ⟨fun b o h => hb.cell (p := ⟨b, o, none⟩) h, fun b o h => hb.frozen (p := ⟨b, o, none⟩) h⟩

theorem cell_of_heap {w w' : World} {b : Nat} (h : w'.heap[b]? = w.heap[b]?) (o : Nat) : w'.cell? ⟨b, o, none⟩ = w.cell? ⟨b, o, none⟩ := World.cell?_of_block (w := w) (a := ⟨b, o, none⟩) h
theorem frozen_of_heap {w w' : World} {b : Nat} (h : w'.heap[b]? = w.heap[b]?) (o : Nat) : w'.frozen? ⟨b, o, none⟩ = w.frozen? ⟨b, o, none⟩ := World.frozen?_of_block (w := w) (a := ⟨b, o, none⟩) h
/-- What is owned stays as long as its blocks stay. -/
theorem Ty.ow_keep {w w' : World} : ∀ {t : Ty} {cs : List Value} {x : t.D} {fp : List Nat}, (∀ b ∈ fp, w'.heap[b]? = w.heap[b]?) → t.ow w cs x fp → t.ow w' cs x fp
  | .int, _, _, _, _, h => h
  | .byte, _, _, _, _, h => h
  | .bool, _, _, _, _, h => h
  | .str, _, _, _, _, h => h
  | .sl e, _, _, _, hk, ⟨A, c, h1, h2, h3, h4, h5⟩ => ⟨A, c, h1, h2, h3, h4, by
      rcases h5 with h5 | ⟨h0, b, o, fs, hA, hfp, hc⟩
      · exact .inl h5
      · refine .inr ⟨h0, b, o, fs, hA, hfp, fun i hi => ?_⟩
        obtain ⟨ds, hl, hcell, hr⟩ := hc i hi
        have hb := hk b (by rw [hfp]; exact List.mem_cons_self)
        refine ⟨ds, hl, fun j hj => ?_, Ty.ow_keep (fun b' hb' => hk b' ?_) hr⟩
        · rw [cell_of_heap hb, frozen_of_heap hb]; exact hcell j hj
        · rw [hfp]; exact List.mem_cons_of_mem _ (List.mem_flatMap.2 ⟨i, List.mem_range.2 hi, hb'⟩)⟩
  | .pr _ _, _, _, _, hk, ⟨c1, c2, f1, f2, h, hf, h1, h2⟩ => ⟨c1, c2, f1, f2, h, hf,
      Ty.ow_keep (fun b hb => hk b (by rw [hf]; exact List.mem_append_left _ hb)) h1, Ty.ow_keep (fun b hb => hk b (by rw [hf]; exact List.mem_append_right _ hb)) h2⟩
theorem Ty.ow_below {w w' : World} {B : Nat} (hb : Below B w w') {t : Ty} {cs : List Value} {x : t.D} {fp : List Nat} (hf : ∀ b ∈ fp, b < B) (h : t.ow w cs x fp) : t.ow w' cs x fp :=
  Ty.ow_keep (fun b hb' => hb.block b (hf b hb')) h
theorem Ty.ow_rd {w : World} : ∀ {t : Ty} {cs : List Value} {x : t.D} {fp : List Nat}, t.ow w cs x fp → t.rd w cs x
  | .int, _, _, _, h => h.1
  | .byte, _, _, _, h => h.1
  | .bool, _, _, _, h => h.1
  | .str, _, _, _, h => h.1
  | .sl e, _, _, _, ⟨A, c, h1, h2, h3, h4, h5⟩ => ⟨A, c, h1, h2, h3, h4, fun hn => by
      rcases h5 with h5 | ⟨_, b, o, fs, hA, hfp, hc⟩
      · exact absurd h5.1 (by omega)
      · refine ⟨b, o, hA, fun i hi => ?_⟩
        obtain ⟨ds, hl, hcell, hr⟩ := hc i hi
        exact ⟨ds, hl, fun j hj => (hcell j hj).1, Ty.ow_rd hr⟩⟩
  | .pr _ _, _, _, _, ⟨c1, c2, f1, f2, h, hf, h1, h2⟩ => ⟨c1, c2, h, Ty.ow_rd h1, Ty.ow_rd h2⟩

def bulkSl {α : Type} (f : α → Nat) (x : List α) : Nat := x.length + (x.map f).sum
/-- How much a datum holds: the lengths of its slices and strings. -/
def Ty.bulk : (t : Ty) → t.D → Nat
  | .str, x => List.length x
  | .sl e, x => bulkSl (fun d => e.bulk d) x
  | .pr a b, x => a.bulk x.1 + b.bulk x.2
  | .int, _ => 0
  | .byte, _ => 0
  | .bool, _ => 0
theorem Ty.bulk_flat {e : Ty} (h : ∀ d : e.D, e.bulk d = 0) (x : List e.D) : Ty.bulk (.sl e) x = x.length := by
  have : (x.map (fun d => e.bulk d)).sum = 0 := by
    induction x with
    | nil => rfl
    | cons a l ih => rw [List.map_cons, List.sum_cons, h, ih]
  show x.length + (x.map (fun d => e.bulk d)).sum = x.length
  omega
theorem Ty.bulk_len {e : Ty} {x : List e.D} {n : Nat} (h : Ty.bulk (.sl e) x ≤ n) : x.length ≤ n := Nat.le_trans (Nat.le_add_right _ _) h
theorem le_sum_mem {l : List Nat} {a : Nat} (h : a ∈ l) : a ≤ l.sum := by
  induction l with
  | nil => cases h
  | cons b l ih =>
    rw [List.sum_cons]
    rcases List.mem_cons.1 h with rfl | h
    · omega
    · have := ih h; omega
theorem Ty.bulk_at {e : Ty} {x : List e.D} {k n : Nat} (h : Ty.bulk (.sl e) x ≤ n) (hk : k < x.length) : e.bulk x[k] ≤ n := by
  have h1 : e.bulk x[k] ≤ (x.map e.bulk).sum := le_sum_mem (List.mem_map.2 ⟨x[k], List.getElem_mem hk, rfl⟩)
  have h2 : x.length + (x.map e.bulk).sum ≤ n := h
  omega
/-- A call that takes a datum's bulk off a budget: what is left, or -1. -/
def RetSz (w : World) (left : Int) (n : Nat) (e : Ending) (w' : World) : Prop := ∃ r : Int, e = .returned (.int .i64 r) ∧ (r = -1 ∨ (0 ≤ r ∧ r + n ≤ left)) ∧ Below w.heap.size w w'

theorem RetSz.of_lt {w w' : World} {left r : Int} {n : Nat} (hr : r = -1 ∨ (0 ≤ r ∧ r + n ≤ left)) (hb : Below w.heap.size w w') (_ : r < 0) : RetSz w left n (.returned (.int .i64 (-1))) w' := ⟨-1, rfl, .inl rfl, hb⟩
theorem RetSz.of_ge {w w' : World} {left r : Int} {n : Nat} (hr : r = -1 ∨ (0 ≤ r ∧ r + n ≤ left)) (hb : Below w.heap.size w w') (_ : 0 ≤ r) : RetSz w left n (.returned (.int .i64 r)) w' := ⟨r, rfl, hr, hb⟩
theorem Ty.ow_len {w : World} : ∀ {t : Ty} {cs : List Value} {x : t.D} {fp : List Nat}, t.ow w cs x fp → cs.length = t.sz
  | .int, _, _, _, h => by rw [h.1.1]; rfl
  | .byte, _, _, _, h => by rw [show _ = _ from h.1]; rfl
  | .bool, _, _, _, h => by rw [show _ = _ from h.1]; rfl
  | .str, _, _, _, h => by rw [h.1.1]; rfl
  | .sl _, _, _, _, ⟨_, _, h, _⟩ => by rw [h]; rfl
  | .pr a b, _, _, _, ⟨c1, c2, _, _, h, _, h1, h2⟩ => by
    rw [h, List.length_append, Ty.ow_len h1, Ty.ow_len h2]; rfl
theorem Ty.ow_one {w : World} {t : Ty} {cs : List Value} {x : t.D} {fp : List Nat} (h : t.ow w cs x fp) (hs : t.sz = 1) : ∃ v, cs = [v] := by
  have := Ty.ow_len h
  rw [hs] at this
  exact List.length_eq_one_iff.1 this

theorem Ty.ow_slv {w : World} {e : Ty} {cs : List Value} {x : List e.D} {fp : List Nat} (h : (Ty.sl e).ow w cs x fp) : ∃ A c, cs = [.slice A x.length c] := by
  obtain ⟨A, c, h1, _⟩ := h
  exact ⟨A, c, h1⟩

theorem below_drewN {B : Nat} {a w : World} (h : Below B a w) (n : Nat) : Below B a (w.drewN n) := ⟨h.os, h.tape, h.output, h.size, h.block⟩

/-- The k-th element of a slice. -/
theorem Ty.rd_at {w : World} {e : Ty} {A : Option Addr} {n c k : Nat} {xs : List e.D} (h : (Ty.sl e).rd w [.slice A n c] xs) (hk : k < xs.length) :
    ∃ b o ds, A = some ⟨b, o, none⟩ ∧ ds.length = e.sz ∧ (∀ j, j < e.sz → w.cell? ⟨b, o + k * e.sz + j, none⟩ = ds[j]?) ∧ e.rd w ds xs[k] := by
  obtain ⟨A', c', h1, h2, h3, h4, h5⟩ := h
  obtain ⟨b, o, hA, hc⟩ := h5 (by show 0 < xs.length; omega)
  obtain ⟨ds, g1, g2, g3⟩ := hc k hk
  injection h1 with h1 _
  injection h1 with h1 _ _
  exact ⟨b, o, ds, h1.trans hA, g1, g2, g3⟩

theorem Ty.rd_str_at {w : World} {A : Option Addr} {n c k : Nat} {xs : List (List UInt8)} (h : (Ty.sl .str).rd w [.slice A n c] xs) (hk : k < xs.length) :
    ∃ b o, A = some ⟨b, o, none⟩ ∧ w.cell? ⟨b, o + k, none⟩ = some (vS xs[k]) ∧ xs[k].length ≤ 9223372036854775807 := by
  obtain ⟨b, o, ds, hA, hl, hc, hr⟩ := Ty.rd_at h hk
  have := hc 0 (by decide)
  rw [hr.1] at this
  exact ⟨b, o, hA, by simpa [Ty.sz] using this, hr.2⟩

theorem Ty.rd_byte_at {w : World} {A : Option Addr} {n c k : Nat} {xs : List UInt8} (h : (Ty.sl .byte).rd w [.slice A n c] xs) (hk : k < xs.length) :
    ∃ b o, A = some ⟨b, o, none⟩ ∧ w.cell? ⟨b, o + k, none⟩ = some (.int .u8 (xs[k].toNat : Int)) := by
  obtain ⟨b, o, ds, hA, hl, hc, hr⟩ := Ty.rd_at h hk
  have := hc 0 (by decide)
  rw [show ds = _ from hr] at this
  exact ⟨b, o, hA, by simpa [Ty.sz] using this⟩
theorem Ty.rd_int_at {w : World} {A : Option Addr} {n c k : Nat} {xs : List Int} (h : (Ty.sl .int).rd w [.slice A n c] xs) (hk : k < xs.length) :
    ∃ b o, A = some ⟨b, o, none⟩ ∧ w.cell? ⟨b, o + k, none⟩ = some (.int .i64 xs[k]) ∧ -9223372036854775808 ≤ xs[k] ∧ xs[k] ≤ 9223372036854775807 := by
  obtain ⟨b, o, ds, hA, hl, hc, hr⟩ := Ty.rd_at h hk
  have := hc 0 (by decide)
  rw [hr.1] at this
  exact ⟨b, o, hA, by simpa [Ty.sz] using this, hr.2⟩

theorem Ty.rd_slv {w : World} {e : Ty} {cs : List Value} {x : List e.D} (h : (Ty.sl e).rd w cs x) : ∃ A c, cs = [.slice A x.length c] := by
  obtain ⟨A, c, h1, _⟩ := h
  exact ⟨A, c, h1⟩
/-- A slice value, and its length. -/
theorem Ty.rd_sl {w : World} {e : Ty} {v : Value} {xs : List e.D} (h : (Ty.sl e).rd w [v] xs) :
    ∃ A c, v = .slice A xs.length c ∧ xs.length ≤ c ∧ c ≤ maxLen ∧ xs.length ≤ 9223372036854775807 := by
  obtain ⟨A, c, h1, h2, h3, h4, _⟩ := h
  injection h1 with h1 _
  exact ⟨A, c, h1, h2, h3.1, h4⟩
theorem Ty.rd_nil {w : World} {e : Ty} {n c : Nat} {xs : List e.D} (h : (Ty.sl e).rd w [.slice none n c] xs) : c = 0 ∧ xs = [] := by
  obtain ⟨A', c', h1, h2, h3, _⟩ := h
  injection h1 with h1 _
  injection h1 with h1 h5 h6
  subst h1; subst h6
  have h7 := h3.2 rfl
  exact ⟨h7, List.eq_nil_of_length_eq_zero (by show xs.length = 0; omega)⟩
/-- 'string(b)', b nil or not. -/
theorem run_str_of_bytes {P : Program} {w : World} {A : Option Addr} {c : Nat} {x : List UInt8} (src dst e : TypeId) (hs : P.underlying src = some (.slice e)) (he : P.underlying e = some (.int .u8)) (hd : P.underlying dst = some .string)
    (h : (Ty.sl .byte).rd w [.slice A x.length c] x) : (convert src dst (.slice A x.length c)).run P w = .ok (vS x) w := by
  cases A with
  | none =>
    have h0 : x = [] := by
      rcases Nat.eq_zero_or_pos x.length with h0 | h0
      · exact List.eq_nil_of_length_eq_zero h0
      · obtain ⟨b, o, hA, _⟩ := Ty.rd_byte_at h h0
        cases hA
    subst h0
    exact run_convert_bytes_nil w src e hs he 0 c dst hd
  | some a =>
    refine run_convert_bytes_back (P := P) w src dst e a c x hs he hd (fun j hj => ?_)
    obtain ⟨b, o, hA, hc⟩ := Ty.rd_byte_at h hj
    injection hA with hA
    subst hA
    rw [Addr.add_lit]
    exact hc
/-- 'make' of n elements, n a variable. -/
theorem run_make_eq {P : Program} (t e : TypeId) {z : Value} {sz by_ : Nat} (hinfo : (P.info? e).map (fun i => (i.zero, i.size, i.bytes)) = some (some z, sz, by_)) (ht : P.underlying t = some (.slice e))
    (n : Nat) (hb : by_ * n ≤ 281474976710656) (hn : n ≤ 9223372036854775807) (W : World) :
    (Instr.makeSlice t (.int .i64 (n : Int)) (.int .i64 (n : Int))).run P W = .ok (.slice (some ⟨W.heap.size, 0, none⟩) n n) (W.alloc (.cells (madeCells z.cells (n * sz)) e)) := by
  obtain ⟨i, hi, hz, hs, hy⟩ := info_parts hinfo
  have hc : (i.bytes : Int) * (n : Int) ≤ 281474976710656 := by
    have : ((i.bytes * n : Nat) : Int) ≤ ((281474976710656 : Nat) : Int) := Int.ofNat_le.2 (by rw [hy]; exact hb)
    rwa [Int.natCast_mul] at this
  have h := run_make (P := P) W t e i z ht hi hz .i64 .i64 n n (by omega) (Int.le_refl _) hc (by omega)
  rw [hs] at h
  simpa only [Int.toNat_natCast] using h
/-- A row of cells written from an offset on. -/
def setList (cur : Array Value) (off : Nat) : List Value → Array Value
  | [] => cur
  | d :: ds => setList (cur.setIfInBounds off d) (off + 1) ds
theorem size_setList : ∀ (ds : List Value) (cur : Array Value) (off : Nat), (setList cur off ds).size = cur.size
  | [], _, _ => rfl
  | d :: ds, cur, off => by rw [setList, size_setList ds]; simp
theorem setList_lt : ∀ (ds : List Value) (cur : Array Value) (off m : Nat), m < off → (setList cur off ds)[m]? = cur[m]?
  | [], _, _, _, _ => rfl
  | d :: ds, cur, off, m, h => by
    rw [setList, setList_lt ds _ _ _ (by omega), Array.getElem?_setIfInBounds_ne (by omega)]
theorem setList_at : ∀ (ds : List Value) (cur : Array Value) (off j : Nat), off + ds.length ≤ cur.size → j < ds.length → (setList cur off ds)[off + j]? = ds[j]?
  | [], _, _, _, _, h => absurd h (by simp)
  | d :: ds, cur, off, 0, h, _ => by
    rw [setList, setList_lt ds _ _ _ (by omega)]
    simp only [List.length_cons] at h
    simp only [Nat.add_zero]
    rw [Array.getElem?_setIfInBounds_self_of_lt (by omega)]
    rfl
  | d :: ds, cur, off, j + 1, h, hj => by
    simp only [List.length_cons] at h hj
    rw [setList, show off + (j + 1) = off + 1 + j by omega, setList_at ds _ _ _ (by simp; omega) (by omega)]
    rfl
/-- The first k elements of x stand in block g, each in memory of its own behind g. -/
def ToInv (e : Ty) (g : Nat) (t : TypeId) (x : List e.D) (k : Nat) (wr : World) : Prop :=
  ∃ (cur : Array Value) (fs : Nat → List Nat), Blk wr g t cur ∧ cur.size = x.length * e.sz ∧
    (∀ i (hi : i < x.length), i < k → ∃ ds : List Value, ds.length = e.sz ∧ (∀ j, j < e.sz → cur[0 + i * e.sz + j]? = ds[j]?) ∧ e.ow wr ds x[i] (fs i)) ∧
    FrI (g + 1) wr.heap.size ((List.range k).flatMap fs)
theorem ToInv.zero {e : Ty} {g : Nat} {t : TypeId} {x : List e.D} {wr : World} {cur : Array Value} (hb : Blk wr g t cur) (hs : cur.size = x.length * e.sz) : ToInv e g t x 0 wr :=
  ⟨cur, fun _ => [], hb, hs, fun i _ h => absurd h (by omega), FrI.nil _ _⟩
theorem ToInv.blk {e : Ty} {g : Nat} {t : TypeId} {x : List e.D} {k : Nat} {wr : World} (h : ToInv e g t x k wr) : ∃ cur, Blk wr g t cur ∧ cur.size = x.length * e.sz := by
  obtain ⟨cur, fs, h1, h2, _⟩ := h
  exact ⟨cur, h1, h2⟩
theorem ToInv.step {e : Ty} {g : Nat} {t : TypeId} {x : List e.D} {k : Nat} {wr w1 w2 : World} {ds : List Value} {fp : List Nat} (h : ToInv e g t x k wr) (hk : k < x.length)
    (hb : Below wr.heap.size wr w1) (how : e.ow w1 ds x[k] fp) (hfr : Fr wr w1 fp) (h2 : ∀ b, b ≠ g → w2.heap[b]? = w1.heap[b]?) (hsz : w2.heap.size = w1.heap.size)
    (hblk : ∀ cur, Blk w1 g t cur → Blk w2 g t (setList cur (k * e.sz) ds)) : ToInv e g t x (k + 1) w2 := by
  obtain ⟨cur, fs, h1, h3, h4, h5⟩ := h
  have hg : g < wr.heap.size := h1.lt
  have hl : ds.length = e.sz := Ty.ow_len how
  have hle : (k + 1) * e.sz ≤ x.length * e.sz := Nat.mul_le_mul_right _ hk
  rw [Nat.succ_mul] at hle
  have hlow : ∀ b ∈ (List.range k).flatMap fs, w2.heap[b]? = wr.heap[b]? := fun b hb' => by
    have := h5.2 b hb'
    rw [h2 b (by omega), hb.block b (by omega)]
  have hfs : (List.range (k + 1)).flatMap (fun i => if i = k then fp else fs i) = (List.range k).flatMap fs ++ fp := by
    have e1 : (List.range k).flatMap (fun i => if i = k then fp else fs i) = (List.range k).flatMap fs := by
      rw [List.flatMap_def, List.flatMap_def]
      congr 1
      exact List.map_congr_left (fun i hi => if_neg (by have := List.mem_range.1 hi; omega))
    rw [List.range_succ, List.flatMap_append, e1]
    simp
  refine ⟨_, fun i => if i = k then fp else fs i, hblk cur (h1.below hb hg), by rw [size_setList]; exact h3, fun i hi hik => ?_, ?_⟩
  · by_cases he : i = k
    · subst he
      refine ⟨ds, hl, fun j hj => ?_, ?_⟩
      · rw [Nat.zero_add]
        exact setList_at ds cur _ j (by omega) (by omega)
      · dsimp only
        rw [if_pos rfl]
        exact Ty.ow_keep (fun b hb' => h2 b (by have := hfr.2 b hb'; omega)) how
    · obtain ⟨ds', g1, g2, g3⟩ := h4 i hi (by omega)
      have hlt : (i + 1) * e.sz ≤ k * e.sz := Nat.mul_le_mul_right _ (by omega)
      rw [Nat.succ_mul] at hlt
      refine ⟨ds', g1, fun j hj => ?_, ?_⟩
      · rw [setList_lt _ _ _ _ (by omega)]
        exact g2 j hj
      · dsimp only
        rw [if_neg he]
        exact Ty.ow_keep (fun b hb' => hlow b (List.mem_flatMap.2 ⟨i, List.mem_range.2 (by omega), hb'⟩)) g3
  · rw [hfs, hsz]
    exact FrI.app h5 hfr (Nat.le_refl _) (by omega) hb.size
theorem ToInv.done {e : Ty} {g c : Nat} {t : TypeId} {x : List e.D} {w wr : World} (h : ToInv e g t x x.length wr) (hg : w.heap.size ≤ g) (hc : x.length ≤ c) (hm : c ≤ maxLen) (hn : x.length ≤ 9223372036854775807) :
    ∃ fp, (Ty.sl e).ow wr [.slice (some ⟨g, 0, none⟩) x.length c] x fp ∧ Fr w wr fp := by
  obtain ⟨cur, fs, h1, h3, h4, h5⟩ := h
  exact ⟨_, Ty.ow_mk fs h1 hc hm hn (fun i hi => h4 i hi hi), Fr.mk_ hg h1.lt h5.1 (fun b hb => by have := h5.2 b hb; omega)⟩
theorem cell_set_ne (w : World) {b m n : Nat} (h : m ≠ n) (u : Value) : (w.setCell ⟨b, n, none⟩ u).cell? ⟨b, m, none⟩ = w.cell? ⟨b, m, none⟩ :=
  World.cell?_setCell_other w _ _ u (fun e => by injection e with _ e2; omega)
theorem frozen_set (w : World) (p q : Addr) (u : Value) : (w.setCell p u).frozen? q = w.frozen? q := by simp
theorem sum_take_succ {α : Type} (f : α → Nat) (xs : List α) {k : Nat} (h : k < xs.length) : ((xs.take (k + 1)).map f).sum = ((xs.take k).map f).sum + f xs[k] := by
  rw [List.take_succ_eq_append_getElem h, List.map_append, List.sum_append]; simp
theorem sum_take_all {α : Type} (f : α → Nat) (xs : List α) {k : Nat} (h : xs.length ≤ k) : ((xs.take k).map f).sum = (xs.map f).sum := by
  rw [List.take_of_length_le h]
theorem ret_bool {a b : Bool} (h : a = b) : Ending.returned (.bool a) = .returned (.bool b) := by rw [h]
theorem ret_int {k : IntKind} {a b : Int} (h : a = b) : Ending.returned (.int k a) = .returned (.int k b) := by rw [h]
end Go.Proofs.Ytldgbnlcnlfmeaa
