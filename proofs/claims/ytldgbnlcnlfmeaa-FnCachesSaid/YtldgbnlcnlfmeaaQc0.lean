/- Texts of this claim, merged by a program: Base Opn Str Hlp Nam Pure Val Ret. -/
import Derived.Test.YtldgbnlcnlfmeaaQcP
import Derived.WalkKit
import Derived.WalkSpells
import Derived.Lib.Hide
import Derived.Deep.QuietTactic
import Derived.BigQuiet
import Derived.ProofKit
import Derived.OpenShut
import Derived.ChangeOld
import Derived.Deep.Slices
import Derived.Test.YtldgbnlcnlfmeaaRows
import Derived.StillTailTactics
import Derived.WalkLawsBesides
import Derived.Deep.RegionHeld3
import Derived.Shelf.Abstract
namespace Go.Proofs.Ytldgbnlcnlfmeaa
open Go.RowKit
set_option linter.unusedVariables false
set_option linter.unusedSimpArgs false
inductive Ty where
 | int | byte | bool | str
 | sl (e : Ty)
 | pr (a b : Ty)
@[reducible] def Ty.D : Ty → Type
 | .int => Int
 | .byte => UInt8
 | .bool => Bool
 | .str => List UInt8
 | .sl e => List e.D
 | .pr a b => a.D × b.D
def Ty.sz : Ty → Nat
 | .pr a b => a.sz + b.sz
 | _ => 1
def rdInt (cs : List Value) (n : Int) : Prop := cs = [.int .i64 n] ∧ -9223372036854775808 ≤ n ∧ n ≤ 9223372036854775807
def rdByte (cs : List Value) (n : UInt8) : Prop := cs = [.int .u8 (n.toNat : Int)]
def rdBool (cs : List Value) (b : Bool) : Prop := cs = [.bool b]
abbrev vS (s : List UInt8) : Value := .string ⟨s.toArray⟩
def rdStr (cs : List Value) (s : List UInt8) : Prop := cs = [vS s] ∧ s.length ≤ 9223372036854775807
def rdSl {α : Type} (w : World) (sz : Nat) (rd : List Value → α → Prop) (cs : List Value) (x : List α) : Prop :=
 ∃ A c, cs = [.slice A x.length c] ∧ x.length ≤ c ∧ (c ≤ maxLen ∧ (A = none → c = 0)) ∧ x.length ≤ 9223372036854775807 ∧
  (0 < x.length → ∃ b o, A = some ⟨b, o, none⟩ ∧
   ∀ i (h : i < x.length), ∃ ds : List Value, ds.length = sz ∧ (∀ j, j < sz → w.cell? ⟨b, o + i * sz + j, none⟩ = ds[j]?) ∧ rd ds x[i])
def Ty.rd (w : World) : (t : Ty) → List Value → t.D → Prop
 | .int, cs, x => rdInt cs x
 | .byte, cs, x => rdByte cs x
 | .bool, cs, x => rdBool cs x
 | .str, cs, x => rdStr cs x
 | .sl e, cs, x => rdSl w e.sz (fun ds d => e.rd w ds d) cs x
 | .pr a b, cs, x => ∃ c1 c2, cs = c1 ++ c2 ∧ a.rd w c1 x.1 ∧ b.rd w c2 x.2
def owSl {α : Type} (w : World) (sz : Nat) (ow : List Value → α → List Nat → Prop) (cs : List Value) (x : List α) (fp : List Nat) : Prop :=
  ∃ A c, cs = [.slice A x.length c] ∧ x.length ≤ c ∧ (c ≤ maxLen ∧ (A = none → c = 0)) ∧ x.length ≤ 9223372036854775807 ∧
    ((x.length = 0 ∧ fp = []) ∨
     (0 < x.length ∧ ∃ b o, ∃ fs : Nat → List Nat, A = some ⟨b, o, none⟩ ∧ fp = b :: (List.range x.length).flatMap fs ∧
      ∀ i (h : i < x.length), ∃ ds : List Value, ds.length = sz ∧
        (∀ j, j < sz → w.cell? ⟨b, o + i * sz + j, none⟩ = ds[j]? ∧ w.frozen? ⟨b, o + i * sz + j, none⟩ = false) ∧ ow ds x[i] (fs i)))
def Ty.ow (w : World) : (t : Ty) → List Value → t.D → List Nat → Prop
 | .sl e, cs, x, fp => owSl w e.sz (fun ds d f => e.ow w ds d f) cs x fp
 | .pr a b, cs, x, fp => ∃ c1 c2 f1 f2, cs = c1 ++ c2 ∧ fp = f1 ++ f2 ∧ a.ow w c1 x.1 f1 ∧ b.ow w c2 x.2 f2
 | .int, cs, x, fp => rdInt cs x ∧ fp = []
 | .byte, cs, x, fp => rdByte cs x ∧ fp = []
 | .bool, cs, x, fp => rdBool cs x ∧ fp = []
 | .str, cs, x, fp => rdStr cs x ∧ fp = []
theorem Ty.rd_len {w : World} : ∀ {t : Ty} {cs : List Value} {x : t.D}, t.rd w cs x → cs.length = t.sz
 | .int, _, _, h => by rw [h.1]; rfl
 | .byte, _, _, h => by rw [show _ = _ from h]; rfl
 | .bool, _, _, h => by rw [show _ = _ from h]; rfl
 | .str, _, _, h => by rw [h.1]; rfl
 | .sl _, _, _, ⟨_, _, h, _⟩ => by rw [h]; rfl
 | .pr a b, _, _, ⟨c1, c2, h, h1, h2⟩ => by
  rw [h, List.length_append, Ty.rd_len h1, Ty.rd_len h2]; rfl
theorem Ty.rd_below {w w' : World} (hb : Below w.heap.size w w') : ∀ {t : Ty} {cs : List Value} {x : t.D}, t.rd w cs x → t.rd w' cs x
 | .int, _, _, h => h
 | .byte, _, _, h => h
 | .bool, _, _, h => h
 | .str, _, _, h => h
 | .sl e, _, _, ⟨A, c, h1, h2, h3, h4, h5⟩ => ⟨A, c, h1, h2, h3, h4, fun hn => by
   obtain ⟨b, o, hA, hc⟩ := h5 hn
   refine ⟨b, o, hA, fun i hi => ?_⟩
   obtain ⟨ds, hl, hcell, hr⟩ := hc i hi
   refine ⟨ds, hl, fun j hj => ?_, Ty.rd_below hb hr⟩
   have hv : w.cell? ⟨b, o + i * e.sz + j, none⟩ = some (ds[j]'(by omega)) := by rw [hcell j hj]; exact List.getElem?_eq_getElem b_34
   have hlt : b < w.heap.size := World.block_lt_of_cell? w _ hv
   rw [hb.cell (p := ⟨b, o + i * e.sz + j, none⟩) hlt]
   exact hcell j hj⟩
 | .pr _ _, _, _, ⟨c1, c2, h, h1, h2⟩ => ⟨c1, c2, h, Ty.rd_below hb h1, Ty.rd_below hb h2⟩
def FrI (lo hi : Nat) (fp : List Nat) : Prop := fp.Nodup ∧ ∀ b ∈ fp, lo ≤ b ∧ b < hi
theorem FrI.nil (lo hi : Nat) : FrI lo hi [] := ⟨List.nodup_nil, fun b hb => absurd hb (by simp)⟩
theorem FrI.mono {lo hi lo' hi' : Nat} {fp : List Nat} (h : FrI lo hi fp) (h1 : lo' ≤ lo) (h2 : hi ≤ hi') : FrI lo' hi' fp := ⟨h.1, fun b hb => by have := h.2 b hb; omega⟩
theorem FrI.app {lo m m' hi : Nat} {f g : List Nat} (h1 : FrI lo m f) (h2 : FrI m' hi g) (h12 : m ≤ m') (hlo : lo ≤ m') (hhi : m ≤ hi) : FrI lo hi (f ++ g) := by
 refine ⟨List.nodup_append.2 ⟨h1.1, h2.1, fun a ha b hb => ?_⟩, fun b hb => ?_⟩
 ·have := h1.2 a ha; have := h2.2 b hb; omega
 ·rcases List.mem_append.1 hb with hb | hb
  ·have := h1.2 b hb; omega
  ·have := h2.2 b hb; omega
abbrev Fr (w w' : World) (fp : List Nat) : Prop := FrI w.heap.size w'.heap.size fp
theorem Fr.mk_ {w w' : World} {n g : Nat} {l : List Nat} (h1 : w.heap.size ≤ g) (h2 : g < w'.heap.size) (hl : l.Nodup) (h3 : ∀ b ∈ l, g < b ∧ b < w'.heap.size) : Fr w w' (if n = 0 then [] else g :: l) := by
 by_cases h0 : n = 0
 ·rw [if_pos h0]; exact ⟨List.nodup_nil, fun b hb => absurd hb (by simp)⟩
 ·rw [if_neg h0]
  refine ⟨List.nodup_cons.2 ⟨fun hg => absurd (h3 g hg).1 (Nat.lt_irrefl g), hl⟩, fun b hb => ?_⟩
  rcases List.mem_cons.1 hb with rfl | hb
  ·exact ⟨h1, h2⟩
  ·have := h3 b hb; omega
def RetSl (w : World) (t : Ty) (x : List t.D) (e : Ending) (w' : World) : Prop :=
 ∃ A c fp, e = .returned (.slice A x.length c) ∧ (Ty.sl t).ow w' [.slice A x.length c] x fp ∧ Fr w w' fp ∧ Below w.heap.size w w'
def RetAgg (w : World) (t : Ty) (x : t.D) (e : Ending) (w' : World) : Prop :=
 ∃ cs fp, e = .returned (.agg cs.toArray) ∧ t.ow w' cs x fp ∧ Fr w w' fp ∧ Below w.heap.size w w'
def Blk (w : World) (g : Nat) (t : TypeId) (cs : Array Value) : Prop := w.heap[g]? = some (.cells cs t (0, 0))
section
variable {w w' : World} {g : Nat} {t : TypeId} {cs : Array Value}
theorem Blk.lt (h : Blk w g t cs) : g < w.heap.size := by
 rcases Nat.lt_or_ge g w.heap.size with hlt | hge
 ·exact hlt
 ·unfold Blk at h; rw [Array.getElem?_eq_none hge] at h; cases h
theorem Blk.cell (h : Blk w g t cs) (i : Nat) : w.cell? ⟨g, i, none⟩ = cs[i]? := cell_of_row w g i cs t (0, 0) h
theorem Blk.frozen (h : Blk w g t cs) (i : Nat) : w.frozen? ⟨g, i, none⟩ = false := by
 unfold Blk at h
 simp [World.frozen?, h]
theorem Blk.new (w : World) (t : TypeId) (cs : Array Value) : Blk (w.alloc (.cells cs t)) w.heap.size t cs := heap_alloc_new w _
theorem bk1 {w : World} {g : Nat} {t : TypeId} {a : Value} (h : Blk w g t #[a]) : w.cell? ⟨g, 0, none⟩ = some a ∧ w.frozen? ⟨g, 0, none⟩ = false ∧ g < w.heap.size := ⟨h.cell 0, h.frozen 0, h.lt⟩
theorem bk2 {w : World} {g : Nat} {t : TypeId} {a b : Value} (h : Blk w g t #[a, b]) : w.cell? ⟨g, 0, none⟩ = some a ∧ w.cell? ⟨g, 1, none⟩ = some b ∧ w.frozen? ⟨g, 0, none⟩ = false ∧ w.frozen? ⟨g, 1, none⟩ = false ∧ g < w.heap.size := ⟨h.cell 0, h.cell 1, h.frozen 0, h.frozen 1, h.lt⟩
theorem bk3 {w : World} {g : Nat} {t : TypeId} {a b c : Value} (h : Blk w g t #[a, b, c]) : w.cell? ⟨g, 0, none⟩ = some a ∧ w.cell? ⟨g, 1, none⟩ = some b ∧ w.cell? ⟨g, 2, none⟩ = some c ∧ w.frozen? ⟨g, 0, none⟩ = false ∧ w.frozen? ⟨g, 1, none⟩ = false ∧ w.frozen? ⟨g, 2, none⟩ = false ∧ g < w.heap.size := ⟨h.cell 0, h.cell 1, h.cell 2, h.frozen 0, h.frozen 1, h.frozen 2, h.lt⟩
theorem bk4 {w : World} {g : Nat} {t : TypeId} {a b c d : Value} (h : Blk w g t #[a, b, c, d]) : w.cell? ⟨g, 0, none⟩ = some a ∧ w.cell? ⟨g, 1, none⟩ = some b ∧ w.cell? ⟨g, 2, none⟩ = some c ∧ w.cell? ⟨g, 3, none⟩ = some d ∧ w.frozen? ⟨g, 0, none⟩ = false ∧ w.frozen? ⟨g, 1, none⟩ = false ∧ w.frozen? ⟨g, 2, none⟩ = false ∧ w.frozen? ⟨g, 3, none⟩ = false ∧ g < w.heap.size := ⟨h.cell 0, h.cell 1, h.cell 2, h.cell 3, h.frozen 0, h.frozen 1, h.frozen 2, h.frozen 3, h.lt⟩
theorem bk5 {w : World} {g : Nat} {t : TypeId} {a b c d e : Value} (h : Blk w g t #[a, b, c, d, e]) : w.cell? ⟨g, 0, none⟩ = some a ∧ w.cell? ⟨g, 1, none⟩ = some b ∧ w.cell? ⟨g, 2, none⟩ = some c ∧ w.cell? ⟨g, 3, none⟩ = some d ∧ w.cell? ⟨g, 4, none⟩ = some e ∧ w.frozen? ⟨g, 0, none⟩ = false ∧ w.frozen? ⟨g, 1, none⟩ = false ∧ w.frozen? ⟨g, 2, none⟩ = false ∧ w.frozen? ⟨g, 3, none⟩ = false ∧ w.frozen? ⟨g, 4, none⟩ = false ∧ g < w.heap.size := ⟨h.cell 0, h.cell 1, h.cell 2, h.cell 3, h.cell 4, h.frozen 0, h.frozen 1, h.frozen 2, h.frozen 3, h.frozen 4, h.lt⟩
theorem bk6 {w : World} {g : Nat} {t : TypeId} {a b c d e f : Value} (h : Blk w g t #[a, b, c, d, e, f]) : w.cell? ⟨g, 0, none⟩ = some a ∧ w.cell? ⟨g, 1, none⟩ = some b ∧ w.cell? ⟨g, 2, none⟩ = some c ∧ w.cell? ⟨g, 3, none⟩ = some d ∧ w.cell? ⟨g, 4, none⟩ = some e ∧ w.cell? ⟨g, 5, none⟩ = some f ∧ w.frozen? ⟨g, 0, none⟩ = false ∧ w.frozen? ⟨g, 1, none⟩ = false ∧ w.frozen? ⟨g, 2, none⟩ = false ∧ w.frozen? ⟨g, 3, none⟩ = false ∧ w.frozen? ⟨g, 4, none⟩ = false ∧ w.frozen? ⟨g, 5, none⟩ = false ∧ g < w.heap.size := ⟨h.cell 0, h.cell 1, h.cell 2, h.cell 3, h.cell 4, h.cell 5, h.frozen 0, h.frozen 1, h.frozen 2, h.frozen 3, h.frozen 4, h.frozen 5, h.lt⟩
theorem cell_new (w : World) (t : TypeId) (cs : Array Value) (i : Nat) {g : Nat} (hg : g = w.heap.size) : (w.alloc (.cells cs t)).cell? ⟨g, i, none⟩ = cs[i]? := by
 subst hg; exact (Blk.new w t cs).cell i
theorem Blk.drew (h : Blk w g t cs) : Blk w.drew g t cs := h
theorem Blk.drewN (h : Blk w g t cs) (n : Nat) : Blk (w.drewN n) g t cs := h
theorem Blk.alloc (h : Blk w g t cs) (o : Obj) : Blk (w.alloc o) g t cs := (Below.heap_alloc w o g h.lt).trans h
theorem Blk.set_ (h : Blk w g t cs) (i : Nat) (u : Value) : Blk (w.setCell ⟨g, i, none⟩ u) g t (cs.setIfInBounds i u) := by
 unfold Blk at h ⊢
 simp [World.setCell, Array.getElem?_modify, h]
theorem Blk.far (h : Blk w g t cs) {p : Addr} (hp : g ≠ p.block) (u : Value) : Blk (w.setCell p u) g t cs := (Below.heap_setCell w p u g hp).trans h
theorem Blk.below {B : Nat} (h : Blk w g t cs) (hb : Below B w w') (hg : g < B) : Blk w' g t cs := (hb.block g hg).trans h
theorem Blk.grown {row : Option Nat} (h : Blk w g t cs) (hb : w.grownBy w' row) (hg : some g ≠ row) : Blk w' g t cs := (hb.block g h.lt hg).trans h
end
theorem Ty.ow_mk {w : World} {e : Ty} {g o c : Nat} {t : TypeId} {cur : Array Value} {xs : List e.D} (fs : Nat → List Nat) (hb : Blk w g t cur) (hc : xs.length ≤ c) (hm : c ≤ maxLen) (hn : xs.length ≤ 9223372036854775807)
  (h : ∀ i (hi : i < xs.length), ∃ ds : List Value, ds.length = e.sz ∧ (∀ j, j < e.sz → cur[o + i * e.sz + j]? = ds[j]?) ∧ e.ow w ds xs[i] (fs i)) :
  (Ty.sl e).ow w [.slice (some ⟨g, o, none⟩) xs.length c] xs (if xs.length = 0 then [] else g :: (List.range xs.length).flatMap fs) := by
 refine ⟨_, c, rfl, hc, ⟨hm, fun h => by cases h⟩, hn, ?_⟩
 by_cases h0 : xs.length = 0
 ·left
  exact ⟨h0, if_pos h0⟩
 ·right
  refine ⟨by show 0 < xs.length; omega, g, o, fs, rfl, if_neg h0, fun i hi => ?_⟩
  obtain ⟨ds, h1, h2, h3⟩ := h i hi
  exact ⟨ds, h1, fun j hj => ⟨(hb.cell _).trans (h2 j hj), hb.frozen _⟩, h3⟩
def RetB (w : World) (b : Bool) (e : Ending) (w' : World) : Prop := e = .returned (.bool b) ∧ Below w.heap.size w w'
def RetI (w : World) (n : Int) (e : Ending) (w' : World) : Prop := e = .returned (.int .i64 n) ∧ Below w.heap.size w w'
theorem size_drewN (w : World) (n : Nat) : (w.drewN n).heap.size = w.heap.size := rfl
theorem szz : (∀ (w : World) (o : Obj), (w.alloc o).heap.size = w.heap.size + 1) ∧ (∀ (w : World) (p : Addr) (v : Value), (w.setCell p v).heap.size = w.heap.size) ∧ (∀ w : World, w.drew.heap.size = w.heap.size) ∧ (∀ (w : World) (n : Nat), (w.drewN n).heap.size = w.heap.size) := ⟨fun _ _ => World.size_alloc .., fun _ _ _ => World.size_setCell .., fun _ => World.size_drew .., fun _ _ => size_drewN ..⟩
theorem bel_alloc {w w1 : World} (h : Below w.heap.size w w1) (o : Obj) : Below w.heap.size w (w1.alloc o) := h.alloc h.size o
theorem bel_trans {w w1 w2 : World} (h : Below w.heap.size w w1) (k : Below w1.heap.size w1 w2) : Below w.heap.size w w2 := h.trans (k.mono h.size)
theorem bel_set {w w1 : World} (h : Below w.heap.size w w1) {p : Addr} (hp : w.heap.size ≤ p.block) (u : Value) : Below w.heap.size w (w1.setCell p u) := h.setCell hp u
theorem bel_drewN {w w1 : World} (h : Below w.heap.size w w1) (n : Nat) : Below w.heap.size w (w1.drewN n) := ⟨h.os, h.tape, h.output, h.size, h.block⟩
theorem bel_drew {w w1 : World} (h : Below w.heap.size w w1) : Below w.heap.size w w1.drew := ⟨h.os, h.tape, h.output, h.size, h.block⟩
theorem bcell {W w1 : World} (hb : Below W.heap.size W w1) : (∀ b o, b < W.heap.size → w1.cell? ⟨b, o, none⟩ = W.cell? ⟨b, o, none⟩) ∧ (∀ b o, b < W.heap.size → w1.frozen? ⟨b, o, none⟩ = W.frozen? ⟨b, o, none⟩) :=
 ⟨fun b o h => hb.cell (p := ⟨b, o, none⟩) h, fun b o h => hb.frozen (p := ⟨b, o, none⟩) h⟩
theorem cell_of_heap {w w' : World} {b : Nat} (h : w'.heap[b]? = w.heap[b]?) (o : Nat) : w'.cell? ⟨b, o, none⟩ = w.cell? ⟨b, o, none⟩ := World.cell?_of_block (w := w) (a := ⟨b, o, none⟩) h
theorem frozen_of_heap {w w' : World} {b : Nat} (h : w'.heap[b]? = w.heap[b]?) (o : Nat) : w'.frozen? ⟨b, o, none⟩ = w.frozen? ⟨b, o, none⟩ := World.frozen?_of_block (w := w) (a := ⟨b, o, none⟩) h
theorem Ty.ow_keep {w w' : World} : ∀ {t : Ty} {cs : List Value} {x : t.D} {fp : List Nat}, (∀ b ∈ fp, w'.heap[b]? = w.heap[b]?) → t.ow w cs x fp → t.ow w' cs x fp
 | .int, _, _, _, _, h => h
 | .byte, _, _, _, _, h => h
 | .bool, _, _, _, _, h => h
 | .str, _, _, _, _, h => h
 | .sl e, _, _, _, hk, ⟨A, c, h1, h2, h3, h4, h5⟩ => ⟨A, c, h1, h2, h3, h4, by
   rcases h5 with h5 | ⟨h0, b, o, fs, hA, hfp, hc⟩
   ·exact .inl h5
   ·refine .inr ⟨h0, b, o, fs, hA, hfp, fun i hi => ?_⟩
    obtain ⟨ds, hl, hcell, hr⟩ := hc i hi
    have hb := hk b (by rw [hfp]; exact List.mem_cons_self)
    refine ⟨ds, hl, fun j hj => ?_, Ty.ow_keep (fun b' hb' => hk b' ?_) hr⟩
    ·rw [cell_of_heap hb, frozen_of_heap hb]; exact hcell j hj
    ·rw [hfp]; exact List.mem_cons_of_mem _ (List.mem_flatMap.2 ⟨i, List.mem_range.2 hi, hb'⟩)⟩
 | .pr _ _, _, _, _, hk, ⟨c1, c2, f1, f2, h, hf, h1, h2⟩ => ⟨c1, c2, f1, f2, h, hf,
   Ty.ow_keep (fun b hb => hk b (by rw [hf]; exact List.mem_append_left _ hb)) h1, Ty.ow_keep (fun b hb => hk b (by rw [hf]; exact List.mem_append_right _ hb)) h2⟩
theorem Ty.ow_rd {w : World} : ∀ {t : Ty} {cs : List Value} {x : t.D} {fp : List Nat}, t.ow w cs x fp → t.rd w cs x
 | .int, _, _, _, h => h.1
 | .byte, _, _, _, h => h.1
 | .bool, _, _, _, h => h.1
 | .str, _, _, _, h => h.1
 | .sl e, _, _, _, ⟨A, c, h1, h2, h3, h4, h5⟩ => ⟨A, c, h1, h2, h3, h4, fun hn => by
   rcases h5 with h5 | ⟨_, b, o, fs, hA, hfp, hc⟩
   ·exact absurd h5.1 b_34
   ·refine ⟨b, o, hA, fun i hi => ?_⟩
    obtain ⟨ds, hl, hcell, hr⟩ := hc i hi
    exact ⟨ds, hl, fun j hj => (hcell j hj).1, Ty.ow_rd hr⟩⟩
 | .pr _ _, _, _, _, ⟨c1, c2, f1, f2, h, hf, h1, h2⟩ => ⟨c1, c2, h, Ty.ow_rd h1, Ty.ow_rd h2⟩
def bulkSl {α : Type} (f : α → Nat) (x : List α) : Nat := x.length + (x.map f).sum
def Ty.bulk : (t : Ty) → t.D → Nat
 | .str, x => List.length x
 | .sl e, x => bulkSl (fun d => e.bulk d) x
 | .pr a b, x => a.bulk x.1 + b.bulk x.2
 | .int, _ => 0
 | .byte, _ => 0
 | .bool, _ => 0
theorem Ty.bulk_flat {e : Ty} (h : ∀ d : e.D, e.bulk d = 0) (x : List e.D) : Ty.bulk (.sl e) x = x.length := by
 have : (x.map (fun d => e.bulk d)).sum = 0 := by
  induction x with
  | nil => rfl
  | cons a l ih => rw [List.map_cons, List.sum_cons, h, ih]
 show x.length + (x.map (fun d => e.bulk d)).sum = x.length
 omega
theorem Ty.bulk_len {e : Ty} {x : List e.D} {n : Nat} (h : Ty.bulk (.sl e) x ≤ n) : x.length ≤ n := Nat.le_trans (Nat.le_add_right _ _) h
theorem le_sum_mem {l : List Nat} {a : Nat} (h : a ∈ l) : a ≤ l.sum := by
 induction l with
 | nil => cases h
 | cons b l ih =>
  rw [List.sum_cons]
  rcases List.mem_cons.1 h with rfl | h
  ·omega
  ·have := ih h; omega
theorem Ty.bulk_at {e : Ty} {x : List e.D} {k n : Nat} (h : Ty.bulk (.sl e) x ≤ n) (hk : k < x.length) : e.bulk x[k] ≤ n := by
 have h1 : e.bulk x[k] ≤ (x.map e.bulk).sum := le_sum_mem (List.mem_map.2 ⟨x[k], List.getElem_mem hk, rfl⟩)
 have h2 : x.length + (x.map e.bulk).sum ≤ n := h
 omega
theorem Ty.ow_len {w : World} : ∀ {t : Ty} {cs : List Value} {x : t.D} {fp : List Nat}, t.ow w cs x fp → cs.length = t.sz
 | .int, _, _, _, h => by rw [h.1.1]; rfl
 | .byte, _, _, _, h => by rw [show _ = _ from h.1]; rfl
 | .bool, _, _, _, h => by rw [show _ = _ from h.1]; rfl
 | .str, _, _, _, h => by rw [h.1.1]; rfl
 | .sl _, _, _, _, ⟨_, _, h, _⟩ => by rw [h]; rfl
 | .pr a b, _, _, _, ⟨c1, c2, _, _, h, _, h1, h2⟩ => by
  rw [h, List.length_append, Ty.ow_len h1, Ty.ow_len h2]; rfl
theorem Ty.ow_slv {w : World} {e : Ty} {cs : List Value} {x : List e.D} {fp : List Nat} (h : (Ty.sl e).ow w cs x fp) : ∃ A c, cs = [.slice A x.length c] := by
 obtain ⟨A, c, h1, _⟩ := h
 exact ⟨A, c, h1⟩
theorem Ty.rd_at {w : World} {e : Ty} {A : Option Addr} {n c k : Nat} {xs : List e.D} (h : (Ty.sl e).rd w [.slice A n c] xs) (hk : k < xs.length) :
  ∃ b o ds, A = some ⟨b, o, none⟩ ∧ ds.length = e.sz ∧ (∀ j, j < e.sz → w.cell? ⟨b, o + k * e.sz + j, none⟩ = ds[j]?) ∧ e.rd w ds xs[k] := by
 obtain ⟨A', c', h1, h2, h3, h4, h5⟩ := h
 obtain ⟨b, o, hA, hc⟩ := h5 (by show 0 < xs.length; omega)
 obtain ⟨ds, g1, g2, g3⟩ := hc k hk
 injection h1 with h1 _
 injection h1 with h1 _ _
 exact ⟨b, o, ds, h1.trans hA, g1, g2, g3⟩
theorem Ty.rd_str_at {w : World} {A : Option Addr} {n c k : Nat} {xs : List (List UInt8)} (h : (Ty.sl .str).rd w [.slice A n c] xs) (hk : k < xs.length) :
  ∃ b o, A = some ⟨b, o, none⟩ ∧ w.cell? ⟨b, o + k, none⟩ = some (vS xs[k]) ∧ xs[k].length ≤ 9223372036854775807 := by
 obtain ⟨b, o, ds, hA, hl, hc, hr⟩ := Ty.rd_at h hk
 have := hc 0 b_33
 rw [hr.1] at this
 exact ⟨b, o, hA, by simpa [Ty.sz] using this, hr.2⟩
theorem Ty.rd_byte_at {w : World} {A : Option Addr} {n c k : Nat} {xs : List UInt8} (h : (Ty.sl .byte).rd w [.slice A n c] xs) (hk : k < xs.length) :
  ∃ b o, A = some ⟨b, o, none⟩ ∧ w.cell? ⟨b, o + k, none⟩ = some (.int .u8 (xs[k].toNat : Int)) := by
 obtain ⟨b, o, ds, hA, hl, hc, hr⟩ := Ty.rd_at h hk
 have := hc 0 b_33
 rw [show ds = _ from hr] at this
 exact ⟨b, o, hA, by simpa [Ty.sz] using this⟩
theorem Ty.rd_int_at {w : World} {A : Option Addr} {n c k : Nat} {xs : List Int} (h : (Ty.sl .int).rd w [.slice A n c] xs) (hk : k < xs.length) :
  ∃ b o, A = some ⟨b, o, none⟩ ∧ w.cell? ⟨b, o + k, none⟩ = some (.int .i64 xs[k]) ∧ -9223372036854775808 ≤ xs[k] ∧ xs[k] ≤ 9223372036854775807 := by
 obtain ⟨b, o, ds, hA, hl, hc, hr⟩ := Ty.rd_at h hk
 have := hc 0 b_33
 rw [hr.1] at this
 exact ⟨b, o, hA, by simpa [Ty.sz] using this, hr.2⟩
theorem Ty.rd_slv {w : World} {e : Ty} {cs : List Value} {x : List e.D} (h : (Ty.sl e).rd w cs x) : ∃ A c, cs = [.slice A x.length c] := by
 obtain ⟨A, c, h1, _⟩ := h
 exact ⟨A, c, h1⟩
theorem Ty.rd_sl {w : World} {e : Ty} {v : Value} {xs : List e.D} (h : (Ty.sl e).rd w [v] xs) :
  ∃ A c, v = .slice A xs.length c ∧ xs.length ≤ c ∧ c ≤ maxLen ∧ xs.length ≤ 9223372036854775807 := by
 obtain ⟨A, c, h1, h2, h3, h4, _⟩ := h
 injection h1 with h1 _
 exact ⟨A, c, h1, h2, h3.1, h4⟩
theorem Ty.rd_nil {w : World} {e : Ty} {n c : Nat} {xs : List e.D} (h : (Ty.sl e).rd w [.slice none n c] xs) : c = 0 ∧ xs = [] := by
 obtain ⟨A', c', h1, h2, h3, _⟩ := h
 injection h1 with h1 _
 injection h1 with h1 h5 h6
 subst h1; subst h6
 have h7 := h3.2 rfl
 exact ⟨h7, List.eq_nil_of_length_eq_zero (by show xs.length = 0; omega)⟩
def setList (cur : Array Value) (off : Nat) : List Value → Array Value
 | [] => cur
 | d :: ds => setList (cur.setIfInBounds off d) (off + 1) ds
theorem size_setList : ∀ (ds : List Value) (cur : Array Value) (off : Nat), (setList cur off ds).size = cur.size
 | [], _, _ => rfl
 | d :: ds, cur, off => by rw [setList, size_setList ds]; simp
theorem setList_lt : ∀ (ds : List Value) (cur : Array Value) (off m : Nat), m < off → (setList cur off ds)[m]? = cur[m]?
 | [], _, _, _, _ => rfl
 | d :: ds, cur, off, m, h => by
  rw [setList, setList_lt ds _ _ _ b_34, Array.getElem?_setIfInBounds_ne b_34]
theorem setList_at : ∀ (ds : List Value) (cur : Array Value) (off j : Nat), off + ds.length ≤ cur.size → j < ds.length → (setList cur off ds)[off + j]? = ds[j]?
 | [], _, _, _, _, h => absurd h (by simp)
 | d :: ds, cur, off, 0, h, _ => by
  rw [setList, setList_lt ds _ _ _ b_34]
  simp only [List.length_cons] at h
  simp only [Nat.add_zero]
  rw [Array.getElem?_setIfInBounds_self_of_lt b_34]
  rfl
 | d :: ds, cur, off, j + 1, h, hj => by
  simp only [List.length_cons] at h hj
  rw [setList, show off + (j + 1) = off + 1 + j by omega, setList_at ds _ _ _ (by simp; omega) b_34]
  rfl
def ToInv (e : Ty) (g : Nat) (t : TypeId) (x : List e.D) (k : Nat) (wr : World) : Prop :=
 ∃ (cur : Array Value) (fs : Nat → List Nat), Blk wr g t cur ∧ cur.size = x.length * e.sz ∧
  (∀ i (hi : i < x.length), i < k → ∃ ds : List Value, ds.length = e.sz ∧ (∀ j, j < e.sz → cur[0 + i * e.sz + j]? = ds[j]?) ∧ e.ow wr ds x[i] (fs i)) ∧
  FrI (g + 1) wr.heap.size ((List.range k).flatMap fs)
theorem ToInv.zero {e : Ty} {g : Nat} {t : TypeId} {x : List e.D} {wr : World} {cur : Array Value} (hb : Blk wr g t cur) (hs : cur.size = x.length * e.sz) : ToInv e g t x 0 wr :=
 ⟨cur, fun _ => [], hb, hs, fun i _ h => absurd h b_34, FrI.nil _ _⟩
theorem ToInv.blk {e : Ty} {g : Nat} {t : TypeId} {x : List e.D} {k : Nat} {wr : World} (h : ToInv e g t x k wr) : ∃ cur, Blk wr g t cur ∧ cur.size = x.length * e.sz := by
 obtain ⟨cur, fs, h1, h2, _⟩ := h
 exact ⟨cur, h1, h2⟩
theorem ToInv.step {e : Ty} {g : Nat} {t : TypeId} {x : List e.D} {k : Nat} {wr w1 w2 : World} {ds : List Value} {fp : List Nat} (h : ToInv e g t x k wr) (hk : k < x.length)
  (hb : Below wr.heap.size wr w1) (how : e.ow w1 ds x[k] fp) (hfr : Fr wr w1 fp) (h2 : ∀ b, b ≠ g → w2.heap[b]? = w1.heap[b]?) (hsz : w2.heap.size = w1.heap.size)
  (hblk : ∀ cur, Blk w1 g t cur → Blk w2 g t (setList cur (k * e.sz) ds)) : ToInv e g t x (k + 1) w2 := by
 obtain ⟨cur, fs, h1, h3, h4, h5⟩ := h
 have hg : g < wr.heap.size := h1.lt
 have hl : ds.length = e.sz := Ty.ow_len how
 have hle : (k + 1) * e.sz ≤ x.length * e.sz := Nat.mul_le_mul_right _ hk
 rw [Nat.succ_mul] at hle
 have hlow : ∀ b ∈ (List.range k).flatMap fs, w2.heap[b]? = wr.heap[b]? := fun b hb' => by
  have := h5.2 b hb'
  rw [h2 b b_34, hb.block b b_34]
 have hfs : (List.range (k + 1)).flatMap (fun i => if i = k then fp else fs i) = (List.range k).flatMap fs ++ fp := by
  have e1 : (List.range k).flatMap (fun i => if i = k then fp else fs i) = (List.range k).flatMap fs := by
   rw [List.flatMap_def, List.flatMap_def]
   congr 1
   exact List.map_congr_left (fun i hi => if_neg (by have := List.mem_range.1 hi; omega))
  rw [List.range_succ, List.flatMap_append, e1]
  simp
 refine ⟨_, fun i => if i = k then fp else fs i, hblk cur (h1.below hb hg), by rw [size_setList]; exact h3, fun i hi hik => ?_, ?_⟩
 ·by_cases he : i = k
  ·subst he
   refine ⟨ds, hl, fun j hj => ?_, ?_⟩
   ·rw [Nat.zero_add]
    exact setList_at ds cur _ j b_34 b_34
   ·dsimp only
    rw [if_pos rfl]
    exact Ty.ow_keep (fun b hb' => h2 b (by have := hfr.2 b hb'; omega)) how
  ·obtain ⟨ds', g1, g2, g3⟩ := h4 i hi b_34
   have hlt : (i + 1) * e.sz ≤ k * e.sz := Nat.mul_le_mul_right _ b_34
   rw [Nat.succ_mul] at hlt
   refine ⟨ds', g1, fun j hj => ?_, ?_⟩
   ·rw [setList_lt _ _ _ _ b_34]
    exact g2 j hj
   ·dsimp only
    rw [if_neg he]
    exact Ty.ow_keep (fun b hb' => hlow b (List.mem_flatMap.2 ⟨i, List.mem_range.2 b_34, hb'⟩)) g3
 ·rw [hfs, hsz]
  exact FrI.app h5 hfr (Nat.le_refl _) b_34 hb.size
theorem ToInv.done {e : Ty} {g c : Nat} {t : TypeId} {x : List e.D} {w wr : World} (h : ToInv e g t x x.length wr) (hg : w.heap.size ≤ g) (hc : x.length ≤ c) (hm : c ≤ maxLen) (hn : x.length ≤ 9223372036854775807) :
  ∃ fp, (Ty.sl e).ow wr [.slice (some ⟨g, 0, none⟩) x.length c] x fp ∧ Fr w wr fp := by
 obtain ⟨cur, fs, h1, h3, h4, h5⟩ := h
 exact ⟨_, Ty.ow_mk fs h1 hc hm hn (fun i hi => h4 i hi hi), Fr.mk_ hg h1.lt h5.1 (fun b hb => by have := h5.2 b hb; omega)⟩
theorem ret_bool {a b : Bool} (h : a = b) : Ending.returned (.bool a) = .returned (.bool b) := by rw [h]
theorem ret_int {k : IntKind} {a b : Int} (h : a = b) : Ending.returned (.int k a) = .returned (.int k b) := by rw [h]
end Go.Proofs.Ytldgbnlcnlfmeaa
namespace Go.Proofs.Ytldgbnlcnlfmeaa
open Go.ChangeShapes Go.WideShapes Go.RowKit
set_option linter.unusedVariables false
set_option linter.unusedSimpArgs false
section
variable {H : Type} {enc : TypeId × Value → H} {P : Program} {w : World} {base : Nat} {spare : Nat → Bool} {held : Bool}
theorem collect {α : Type} (n : Nat) (p : Nat → α → Prop) (h : ∀ i, i < n → ∃ d, p i d) : ∃ xs : List α, xs.length = n ∧ ∀ i (h1 : i < xs.length), p i xs[i] := by
 induction n with
 | zero => exact ⟨[], rfl, fun i h1 => absurd h1 (by simp)⟩
 | succ k ih =>
  obtain ⟨xs, h1, h2⟩ := ih (fun i hi' => h i b_34)
  obtain ⟨d, hd⟩ := h k b_34
  refine ⟨xs ++ [d], by simp [h1], fun i hi' => ?_⟩
  by_cases hik : i < xs.length
  ·rw [List.getElem_append_left hik]; exact h2 i hik
  ·obtain rfl : i = k := by simp at hi'; omega
   rw [List.getElem_append_right b_34]
   simpa using hd
def Opens (enc : TypeId × Value → H) (P : Program) (w : World) (base : Nat) (spare : Nat → Bool) (held : Bool) (t : TypeId) (e : Ty) : Prop :=
 ∀ (fuel : Nat) (cs : List Value) (x : DataW H × List MemPlace), DataW.trod enc P w base spare held fuel t cs = some x → ∃ d, e.rd w cs d
theorem opens_byte {t : TypeId} (ht : P.underlying t = some (.int .u8)) : Opens enc P w base spare held t .byte := by
 intro fuel cs x h
 obtain ⟨n, rfl, _, hw⟩ := DataW.trod_int ht h
 have := bounds_u8 hw
 refine ⟨UInt8.ofNat n.toNat, ?_⟩
 show _ = _
 congr 2
 rw [UInt8.toNat_ofNat']
 omega
theorem opens_sl {t u : TypeId} {e : Ty} (ht : P.underlying t = some (.slice u)) (hc : P.cellsOf u = e.sz) (hz : 0 < e.sz) (h : Opens enc P w base spare held u e) : Opens enc P w base spare held t (.sl e) := by
 intro fuel cs x hx
 rcases Deep.open_slice ht hx with ⟨rfl, _⟩ | ⟨a, len, cap, m, n, D, Pl, rfl, hb, hl, hm, hmm, _, hi⟩
 ·exact ⟨[], none, 0, rfl, Nat.le_refl _, ⟨Nat.zero_le _, fun _ => rfl⟩, Nat.zero_le _, fun h => absurd h (by simp)⟩
 ·have hlm : len ≤ m := by rw [hmm]; split <;> omega
  have hel : ∀ i, i < len → ∃ (ds : List Value) (d : e.D), ds.length = e.sz ∧ (∀ j, j < e.sz → w.cell? ((a.add (i * e.sz)).add j) = ds[j]?) ∧ e.rd w ds d := by
   intro i hi'
   obtain ⟨cs', hc', ht'⟩ := hi i b_34
   rw [hc] at hc'
   obtain ⟨_, hcl, hat⟩ := World.cells?_some hc'
   obtain ⟨d, hd⟩ := h _ _ _ ht'
   exact ⟨cs', d, hcl, hat, hd⟩
  have hall := collect len (fun i d => ∃ ds : List Value, ds.length = e.sz ∧ (∀ j, j < e.sz → w.cell? ((a.add (i * e.sz)).add j) = ds[j]?) ∧ e.rd w ds d)
   (fun i hi' => by obtain ⟨ds, d, g⟩ := hel i hi'; exact ⟨d, ds, g⟩)
  obtain ⟨xs, hxl, hxs⟩ := hall
  subst hxl
  refine ⟨xs, some a, cap, rfl, hl, ⟨hm, fun h => by cases h⟩, by unfold maxLen at hm; omega, fun hpos => ?_⟩
  obtain ⟨b, off, spot⟩ := a
  have hspot : spot = none := by
   obtain ⟨ds, g1, g2, _⟩ := hxs 0 hpos
   have h0 := g2 0 hz
   have hv : w.cell? ⟨b, off, spot⟩ = some (ds[0]'(by omega)) := by
    have : w.cell? ⟨b, off, spot⟩ = ds[0]? := by simpa [Addr.add] using h0
    rw [this]; exact List.getElem?_eq_getElem b_34
   exact World.cell?_spot hv
  subst hspot
  refine ⟨b, off, rfl, fun i hi' => ?_⟩
  obtain ⟨ds, g1, g2, g3⟩ := hxs i hi'
  refine ⟨ds, g1, fun j hj => ?_, g3⟩
  have := g2 j hj
  rwa [Addr.add_lit, Addr.add_lit] at this
end
end Go.Proofs.Ytldgbnlcnlfmeaa
namespace Go.Proofs.Ytldgbnlcnlfmeaa
open Go.RowKit
set_option linter.unusedVariables false
set_option linter.unusedSimpArgs false
theorem info_str : (Try.prog.info? 9).map (fun i => (i.zero, i.size, i.bytes)) = some (some (vS []), 1, 16) := by kernel_rfl
theorem info_Byte : (Try.prog.info? 5).map (fun i => (i.zero, i.size, i.bytes)) = some (some (.int .u8 0), 1, 1) := by kernel_rfl
theorem info_Name : (Try.prog.info? 27).map (fun i => (i.zero, i.size, i.bytes)) = some (some (.agg #[.slice none 0 0]), 1, 24) := by kernel_rfl
abbrev tData : Ty := (.pr (.sl .str) (.pr (.sl .byte) (.pr (.sl .str) (.pr .int .int))))
theorem rd_Data {w : World} {cs : List Value} {x : tData.D} (h : tData.rd w cs x) : ∃ (A0 : Option Addr) (c0 : Nat) (A1 : Option Addr) (c1 : Nat) (A2 : Option Addr) (c2 : Nat), cs = [.slice A0 (List.length x.1) c0, .slice A1 (List.length x.2.1) c1, .slice A2 (List.length x.2.2.1) c2, .int .i64 x.2.2.2.1, .int .i64 x.2.2.2.2] ∧ (Ty.rd w (.sl .str) [.slice A0 (List.length x.1) c0] x.1) ∧ (Ty.rd w (.sl .byte) [.slice A1 (List.length x.2.1) c1] x.2.1) ∧ (Ty.rd w (.sl .str) [.slice A2 (List.length x.2.2.1) c2] x.2.2.1) ∧ (-9223372036854775808 ≤ x.2.2.2.1 ∧ x.2.2.2.1 ≤ 9223372036854775807) ∧ (-9223372036854775808 ≤ x.2.2.2.2 ∧ x.2.2.2.2 ≤ 9223372036854775807) := by
 obtain ⟨c0, r0, rfl, g0, q0⟩ := h
 obtain ⟨c1, r1, rfl, g1, q1⟩ := q0
 obtain ⟨c2, r2, rfl, g2, q2⟩ := q1
 obtain ⟨c3, r3, rfl, g3, q3⟩ := q2
 have g4 := q3
 obtain ⟨A0, c0, rfl⟩ := Ty.rd_slv g0
 obtain ⟨A1, c1, rfl⟩ := Ty.rd_slv g1
 obtain ⟨A2, c2, rfl⟩ := Ty.rd_slv g2
 obtain ⟨rfl, b3⟩ := g3
 obtain ⟨rfl, b4⟩ := g4
 exact ⟨A0, c0, A1, c1, A2, c2, rfl, g0, g1, g2, b3, b4⟩
theorem ow_Data {w : World} {cs : List Value} {x : tData.D} {fp : List Nat} (h : tData.ow w cs x fp) : ∃ (A0 : Option Addr) (c0 : Nat) (A1 : Option Addr) (c1 : Nat) (A2 : Option Addr) (c2 : Nat), cs = [.slice A0 (List.length x.1) c0, .slice A1 (List.length x.2.1) c1, .slice A2 (List.length x.2.2.1) c2, .int .i64 x.2.2.2.1, .int .i64 x.2.2.2.2] := by
 obtain ⟨c0, r0, f0, t0, rfl, _, g0, q0⟩ := h
 obtain ⟨c1, r1, f1, t1, rfl, _, g1, q1⟩ := q0
 obtain ⟨c2, r2, f2, t2, rfl, _, g2, q2⟩ := q1
 obtain ⟨c3, r3, f3, t3, rfl, _, g3, q3⟩ := q2
 have g4 := q3
 obtain ⟨A0, c0, rfl⟩ := Ty.ow_slv g0
 obtain ⟨A1, c1, rfl⟩ := Ty.ow_slv g1
 obtain ⟨A2, c2, rfl⟩ := Ty.ow_slv g2
 obtain ⟨⟨rfl, b3⟩, _⟩ := g3
 obtain ⟨⟨rfl, b4⟩, _⟩ := g4
 exact ⟨A0, c0, A1, c1, A2, c2, rfl⟩
abbrev tCacheEntry : Ty := (.pr tData .int)
theorem rd_CacheEntry {w : World} {cs : List Value} {x : tCacheEntry.D} (h : tCacheEntry.rd w cs x) : ∃ (A00 : Option Addr) (c00 : Nat) (A01 : Option Addr) (c01 : Nat) (A02 : Option Addr) (c02 : Nat), cs = [.slice A00 (List.length x.1.1) c00, .slice A01 (List.length x.1.2.1) c01, .slice A02 (List.length x.1.2.2.1) c02, .int .i64 x.1.2.2.2.1, .int .i64 x.1.2.2.2.2, .int .i64 x.2] ∧ (Ty.rd w tData [.slice A00 (List.length x.1.1) c00, .slice A01 (List.length x.1.2.1) c01, .slice A02 (List.length x.1.2.2.1) c02, .int .i64 x.1.2.2.2.1, .int .i64 x.1.2.2.2.2] x.1) ∧ (-9223372036854775808 ≤ x.2 ∧ x.2 ≤ 9223372036854775807) := by
 obtain ⟨c0, r0, rfl, g0, q0⟩ := h
 have g1 := q0
 have g0' := g0
 obtain ⟨A00, c00, A01, c01, A02, c02, rfl, _, _, _, _, _⟩ := rd_Data g0'
 obtain ⟨rfl, b1⟩ := g1
 exact ⟨A00, c00, A01, c01, A02, c02, rfl, g0, b1⟩
theorem info_CacheEntry : (Try.prog.info? 127).map (fun i => (i.zero, i.size, i.bytes)) = some (some (.agg #[.slice none 0 0, .slice none 0 0, .slice none 0 0, .int .i64 0, .int .i64 0, .int .i64 0]), 6, 96) := by kernel_rfl
abbrev tContentStore : Ty := (.pr .int (.sl tCacheEntry))
theorem rd_ContentStore {w : World} {cs : List Value} {x : tContentStore.D} (h : tContentStore.rd w cs x) : ∃ (A1 : Option Addr) (c1 : Nat), cs = [.int .i64 x.1, .slice A1 (List.length x.2) c1] ∧ (-9223372036854775808 ≤ x.1 ∧ x.1 ≤ 9223372036854775807) ∧ (Ty.rd w (.sl tCacheEntry) [.slice A1 (List.length x.2) c1] x.2) := by
 obtain ⟨c0, r0, rfl, g0, q0⟩ := h
 have g1 := q0
 obtain ⟨rfl, b0⟩ := g0
 obtain ⟨A1, c1, rfl⟩ := Ty.rd_slv g1
 exact ⟨A1, c1, rfl, b0, g1⟩
theorem ow_ContentStore {w : World} {cs : List Value} {x : tContentStore.D} {fp : List Nat} (h : tContentStore.ow w cs x fp) : ∃ (A1 : Option Addr) (c1 : Nat), cs = [.int .i64 x.1, .slice A1 (List.length x.2) c1] := by
 obtain ⟨c0, r0, f0, t0, rfl, _, g0, q0⟩ := h
 have g1 := q0
 obtain ⟨⟨rfl, b0⟩, _⟩ := g0
 obtain ⟨A1, c1, rfl⟩ := Ty.ow_slv g1
 exact ⟨A1, c1, rfl⟩
theorem bytesLess_irrefl : ∀ l : List UInt8, Op.bytesLess l l = false
 | [] => rfl
 | a :: l => by simp [Op.bytesLess, bytesLess_irrefl l]
set_option maxHeartbeats 400000 in
theorem C_spec_l4Cmp (w : World) (a b : List UInt8) :
  Calls Try.prog 177 #[vS a, vS b] w fun e w' => ∃ n : Int, e = .returned (.int .i64 n) ∧ (n = 0 ↔ a = b) ∧ Below w.heap.size w w' := by
 go_enter Try.func177, Try.ntmps177
 go_wp2
 all_goals go_ret
 ·rename_i h
  exact ⟨-1, rfl, by (refine ⟨fun h0 => by omega, fun h0 => ?_⟩); subst h0; simp [bytesLess_irrefl] at h, Below.refl _ _⟩
 ·rename_i h
  exact ⟨1, rfl, by (refine ⟨fun h0 => by omega, fun h0 => ?_⟩); subst h0; simp at h, Below.refl _ _⟩
 ·rename_i h
  exact ⟨0, rfl, by simpa using h, Below.refl _ _⟩
set_option maxHeartbeats 1000000 in
theorem C_spec_CompareNames (w : World) (cs1 cs2 : List Value) (x y : List (List UInt8)) (h1 : (Ty.sl .str).rd w cs1 x) (h2 : (Ty.sl .str).rd w cs2 y) :
  Calls Try.prog 158 #[.agg cs1.toArray, .agg cs2.toArray] w fun e w' => ∃ n : Int, e = .returned (.int .i64 n) ∧ (n = 0 ↔ x = y) ∧ Below w.heap.size w w' := by
 obtain ⟨s1, rfl⟩ := List.length_eq_one_iff.1 (Ty.rd_len h1)
 obtain ⟨s2, rfl⟩ := List.length_eq_one_iff.1 (Ty.rd_len h2)
 obtain ⟨A1, c1, rfl, hc1, hm1, hn1⟩ := Ty.rd_sl h1
 obtain ⟨A2, c2, rfl, hc2, hm2, hn2⟩ := Ty.rd_sl h2
 go_enter Try.func158, Try.ntmps158
 go_wp2
 go_loopw [5] (fun i wr => ∃ k : Nat, k ≤ x.length ∧ k ≤ y.length ∧ i = .int .i64 k ∧ x.take k = y.take k ∧ Below ((w.alloc (.cells #[.slice A1 x.length c1] 27)).alloc (.cells #[.slice A2 y.length c2] 27)).heap.size ((w.alloc (.cells #[.slice A1 x.length c1] 27)).alloc (.cells #[.slice A2 y.length c2] 27)) wr) (fun i _ => x.length - (intOf i).toNat)
 case atStart => exact ⟨0, by omega, by omega, rfl, rfl, Below.refl _ _⟩
 case round =>
  obtain ⟨k, hk1, hk2, rfl, htk, hb⟩ := hrel
  have hw : Below w.heap.size w wr := bel_trans b_6 hb
  obtain ⟨hc, hf⟩ := bcell hb
  have HT := Lib.hid htk
  clear htk
  by_cases hl1 : k < x.length
  ·by_cases hl2 : k < y.length
   ·obtain ⟨b1, o1, rfl, e1, _⟩ := Ty.rd_str_at (Ty.rd_below hw h1) hl1
    obtain ⟨b2, o2, rfl, e2, _⟩ := Ty.rd_str_at (Ty.rd_below hw h2) hl2
    go_wp2_with fail
    set_option maxRecDepth 100000 in go_still_tail 10, b_31
    go_wp2_with fail
    refine (C_spec_l4Cmp _ _ _).mono ?_
    rintro e w1 ⟨n, rfl, hn, hb1⟩
    have hb2 : Below ((w.alloc (.cells #[.slice (some ⟨b1, o1, none⟩) x.length c1] 27)).alloc (.cells #[.slice (some ⟨b2, o2, none⟩) y.length c2] 27)).heap.size ((w.alloc (.cells #[.slice (some ⟨b1, o1, none⟩) x.length c1] 27)).alloc (.cells #[.slice (some ⟨b2, o2, none⟩) y.length c2] 27)) w1 := bel_trans (bel_drew hb) hb1
    have hw1 : Below w.heap.size w w1 := bel_trans b_6 hb2
    have HN := Lib.hid hn
    clear hn
    by_cases hn0 : n = 0
    ·have q1 : (n != 0) = false := by simp [hn0]
     have HZ := Lib.hid (HN.out.1 hn0)
     clear hn0
     go_wp2
     go_roundw
     case rel => exact ⟨k + 1, by omega, by omega, by go_num, by rw [List.take_succ_eq_append_getElem hl1, List.take_succ_eq_append_getElem hl2, HT.out, HZ.out], hb2⟩
     case measure => simp [intOf]; omega
    ·have q1 : (n != 0) = true := by simp [hn0]
     have HZ : Hid (¬ x = y) := fun h => hn0 (HN.out.2 (by subst h; rfl))
     clear hn0
     go_wp2
     go_ret
     exact ⟨n, rfl, ⟨fun h => absurd h (by simpa using q1), fun h => absurd h HZ.out⟩, hw1⟩
   ·have hky : k = y.length := by omega
    have HE : Hid (x.length = y.length → x = y) := fun h => by
     have := HT.out
     rwa [hky, List.take_length, ← h, List.take_length] at this
    clear hky
    go_wp2
    all_goals go_ret
    all_goals first
     | exact ⟨-1, rfl, ⟨fun h => by omega, fun h => by (have := congrArg List.length h; omega)⟩, hw⟩
     | exact ⟨1, rfl, ⟨fun h => by omega, fun h => by (have := congrArg List.length h; omega)⟩, hw⟩
     | exact ⟨0, rfl, ⟨fun _ => HE.out b_34, fun _ => rfl⟩, hw⟩
  ·have hkx : k = x.length := by omega
   have HE : Hid (x.length = y.length → x = y) := fun h => by
    have := HT.out
    rwa [hkx, List.take_length, h, List.take_length] at this
   clear hkx
   go_wp2
   all_goals go_ret
   all_goals first
    | exact ⟨-1, rfl, ⟨fun h => by omega, fun h => by (have := congrArg List.length h; omega)⟩, hw⟩
    | exact ⟨1, rfl, ⟨fun h => by omega, fun h => by (have := congrArg List.length h; omega)⟩, hw⟩
    | exact ⟨0, rfl, ⟨fun _ => HE.out b_34, fun _ => rfl⟩, hw⟩
set_option maxHeartbeats 1000000 in
theorem C_spec_EqualNames (w : World) (cs1 cs2 : List Value) (x y : List (List UInt8)) (h1 : (Ty.sl .str).rd w cs1 x) (h2 : (Ty.sl .str).rd w cs2 y) :
  Calls Try.prog 99 #[.agg cs1.toArray, .agg cs2.toArray] w (RetB w (decide (x = y))) := by
 obtain ⟨s1, rfl⟩ := List.length_eq_one_iff.1 (Ty.rd_len h1)
 obtain ⟨s2, rfl⟩ := List.length_eq_one_iff.1 (Ty.rd_len h2)
 go_enter Try.func99, Try.ntmps99
 go_wp2_with fail
 refine (C_spec_CompareNames _ _ _ _ _ (Ty.rd_below b_6 h1) (Ty.rd_below b_6 h2)).mono ?_
 rintro e w1 ⟨n, rfl, hn, hb1⟩
 have hw1 : Below w.heap.size w w1 := bel_trans b_6 hb1
 have HN := Lib.hid hn
 clear hn
 go_wp2
 go_ret
 exact ⟨ret_bool (by rw [Bool.eq_iff_iff]; simp [HN.out]), hw1⟩
set_option maxHeartbeats 1000000 in
theorem C_slices_Equal_str (w : World) (v1 v2 : Value) (x y : List (List UInt8)) (h1 : (Ty.sl .str).rd w [v1] x) (h2 : (Ty.sl .str).rd w [v2] y) :
  Calls Try.prog 143 #[v1, v2] w (RetB w (decide (x = y))) := by
 obtain ⟨A1, c1, rfl, hc1, hm1, hn1⟩ := Ty.rd_sl h1
 obtain ⟨A2, c2, rfl, hc2, hm2, hn2⟩ := Ty.rd_sl h2
 by_cases hl : x.length = y.length
 ·have q1 : ((x.length : Int) != y.length) = false := by simp [hl]
  have HL := Lib.hid hl
  clear hl
  go_enter Try.func143, Try.ntmps143
  go_wp2
  go_loopw [13] (fun i wr => ∃ k : Nat, k ≤ x.length ∧ i = .int .i64 k ∧ x.take k = y.take k ∧ Below w.heap.size w wr) (fun i _ => x.length - (intOf i).toNat)
  case atStart => exact ⟨0, by omega, rfl, rfl, Below.refl _ _⟩
  case round =>
   obtain ⟨k, hk, rfl, htk, hb⟩ := hrel
   have HT := Lib.hid htk
   clear htk
   by_cases hlt : k < x.length
   ·have hlt2 : k < y.length := by have := HL.out; omega
    obtain ⟨b1, o1, rfl, e1, _⟩ := Ty.rd_str_at (Ty.rd_below hb h1) hlt
    obtain ⟨b2, o2, rfl, e2, _⟩ := Ty.rd_str_at (Ty.rd_below hb h2) hlt2
    by_cases he : x[k] = y[k]
    ·have q2 : (!x[k] == y[k]) = false := by simp [he]
     have HE := Lib.hid he
     clear he
     go_wp2
     go_quiet (fail)
     go_wp2
     go_roundw
     case rel => exact ⟨k + 1, by omega, by go_num, by rw [List.take_succ_eq_append_getElem hlt, List.take_succ_eq_append_getElem hlt2, HT.out, HE.out], bel_drewN hb _⟩
     case measure => simp [intOf]; omega
    ·have q2 : (!x[k] == y[k]) = true := by simp [he]
     have HE : Hid (¬ x = y) := fun h => he (by subst h; rfl)
     clear he
     go_wp2
     go_quiet (fail)
     go_wp2
     go_ret
     exact ⟨ret_bool (by simp [HE.out]), bel_drewN hb _⟩
   ·have HE : Hid (x = y) := by
     have h1 := HT.out
     rwa [List.take_of_length_le b_34, List.take_of_length_le (by have := HL.out; omega)] at h1
    go_wp2
    go_ret
    exact ⟨ret_bool (by simp [HE.out]), hb⟩
 ·have q1 : ((x.length : Int) != y.length) = true := by rw [bne_iff_ne]; omega
  have HE : Hid (¬ x = y) := fun h => hl (congrArg List.length h)
  go_enter Try.func143, Try.ntmps143
  go_wp2
  go_ret
  exact ⟨ret_bool (by simp [HE.out]), Below.refl _ _⟩
def okByte (c : UInt8) : Bool := (decide (97 ≤ c.toNat) && decide (c.toNat ≤ 122)) || (decide (48 ≤ c.toNat) && decide (c.toNat ≤ 57)) || decide (c.toNat = 45)
def validPart (s : List UInt8) : Bool := s.all okByte && (decide (1 ≤ s.length) && decide (s.length ≤ 8))
def validName (n : List (List UInt8)) : Bool := n.all validPart && decide (n.length ≤ 6)
theorem all_take_succ {α : Type} (p : α → Bool) (l : List α) {k : Nat} (h : k < l.length) : (l.take (k + 1)).all p = ((l.take k).all p && p l[k]) := by
 rw [List.take_succ_eq_append_getElem h, List.all_append]; simp
theorem all_false_of {α : Type} (p : α → Bool) (l : List α) {k : Nat} (h : k < l.length) (hp : p l[k] = false) : l.all p = false := by
 rw [List.all_eq_false]; exact ⟨l[k], List.getElem_mem h, by simp [hp]⟩
theorem any_take_succ {α : Type} (p : α → Bool) (l : List α) {k : Nat} (h : k < l.length) : (l.take (k + 1)).any p = ((l.take k).any p || p l[k]) := by
 rw [List.take_succ_eq_append_getElem h, List.any_append]; simp
theorem rangeAll_not {n k : Nat} {p : Nat → Bool} (hk : k < n) (h : p k = false) : (List.range n).all p = false := by
 rw [List.all_eq_false]; exact ⟨k, List.mem_range.2 hk, by simp [h]⟩
def RetBP (w : World) (b : Bool) (e : Ending) (w' : World) : Prop := e = .returned (.bool b) ∧ w' = w
def RetIP (w : World) (b : Int) (e : Ending) (w' : World) : Prop := e = .returned (.int .i64 b) ∧ w' = w
def inR (x a b : Int) : Bool := decide (a ≤ x) && decide (x ≤ b)
set_option maxHeartbeats 400000 in
theorem C_spec_l1In (w : World) (x a b : Int) : Calls Try.prog 110 #[.int .i64 x, .int .i64 a, .int .i64 b] w (RetBP w (inR x a b)) := by
 go_enter Try.func110, Try.ntmps110
 go_wp2
 all_goals go_ret
 all_goals exact ⟨ret_bool (by unfold inR; (rw [Bool.eq_iff_iff]; simp; try omega)), rfl⟩
set_option maxHeartbeats 400000 in
theorem C_impl_InRange (w : World) (x a b : Int) : Calls Try.prog 109 #[.int .i64 x, .int .i64 a, .int .i64 b] w (RetBP w (inR x a b)) := by
 go_enter Try.func109, Try.ntmps109
 go_wp2
 all_goals go_ret
 all_goals exact ⟨ret_bool (by unfold inR; (rw [Bool.eq_iff_iff]; simp; try omega)), rfl⟩
theorem okByte_iff (s : List UInt8) (k : Nat) (h : k < s.length) (c : Int) (hc : c = (s[k].toNat : Int)) : okByte s[k] = true ↔ (97 ≤ c ∧ c ≤ 122) ∨ (48 ≤ c ∧ c ≤ 57) ∨ c = 45 := by
 subst hc; unfold okByte; simp; omega
theorem okByte_no (s : List UInt8) (k : Nat) (h : k < s.length) (c : Int) (hc : c = (s[k].toNat : Int)) (hn : ¬ ((97 ≤ c ∧ c ≤ 122) ∨ (48 ≤ c ∧ c ≤ 57) ∨ c = 45)) : okByte s[k] = false := by
 cases hq : okByte s[k]
 ·rfl
 ·exact absurd ((okByte_iff s k h c hc).1 hq) hn
theorem bytes_at (s : List UInt8) (k : Nat) (h : k < s.length) (h2 : k < ({ data := s.toArray } : ByteArray).size) : ((({ data := s.toArray } : ByteArray)[k].toNat : Nat) : Int) = (s[k].toNat : Int) := rfl
set_option maxHeartbeats 1000000 in
theorem C_impl_ValidPart (w : World) (s : List UInt8) (hs : s.length ≤ 9223372036854775807) : Calls Try.prog 162 #[vS s] w (RetBP w (validPart s)) := by
  go_enter Try.func162, Try.ntmps162
  go_wp2
  go_loopw [7] (fun i wr => ∃ k : Nat, k ≤ s.length ∧ i = .int .i64 k ∧ (s.take k).all okByte = true ∧ wr = w) (fun i _ => s.length - (intOf i).toNat)
  case atStart => exact ⟨0, by omega, by first | rfl | simp, rfl, rfl⟩
  case round =>
    obtain ⟨k, hk, rfl, ht, rfl⟩ := hrel
    have HT := Lib.hid ht
    clear ht
    by_cases hlt : k < s.length
    · have hs1 := all_take_succ okByte s hlt
      have HS := Lib.hid hs1
      clear hs1
      go_wp2
      all_goals (try simp only [Bool.not_eq_false', decide_eq_true_eq, beq_iff_eq, Bool.not_eq_true', decide_eq_false_iff_not, beq_eq_false_iff_ne, ne_eq] at *)
      all_goals first
        | (go_ret
           exact ⟨ret_bool (by unfold validPart; rw [all_false_of okByte s hlt (okByte_no s k hlt _ (bytes_at s k hlt hlt) b_34)]; rfl), rfl⟩)
        | exact ⟨⟨k + 1, by omega, by go_num, by rw [HS.out, HT.out, (okByte_iff s k hlt _ (bytes_at s k hlt hlt)).2 b_34]; rfl, by first | rfl | trivial⟩, by simp [intOf]; omega⟩
    · have HE : Hid (s.all okByte = true) := by have := HT.out; rwa [List.take_of_length_le b_34] at this
      go_wp2_with fail
      refine (C_impl_InRange _ _ _ _).mono ?_
      rintro e w1 ⟨rfl, rfl⟩
      go_wp2
      go_ret
      exact ⟨ret_bool (by unfold validPart inR; rw [HE.out]; (rw [Bool.eq_iff_iff]; simp; try omega)), rfl⟩
set_option maxHeartbeats 400000 in
theorem C_impl_ValidName1 (w : World) (s : List UInt8) (hs : s.length ≤ 9223372036854775807) : Calls Try.prog 161 #[vS s] w (RetBP w (!validPart s)) := by
 go_enter Try.func161, Try.ntmps161
 go_wp2_with fail
 refine (C_impl_ValidPart _ _ hs).mono ?_
 rintro e w1 ⟨rfl, rfl⟩
 go_wp2
 go_ret
 exact ⟨rfl, rfl⟩
set_option maxHeartbeats 1000000 in
theorem C_spec_ValidPart (w : World) (s : List UInt8) (hs : s.length ≤ 9223372036854775807) : Calls Try.prog 167 #[vS s] w (RetBP w (validPart s)) := by
 go_enter Try.func167, Try.ntmps167
 go_wp2_with fail
 refine (C_spec_l1In _ _ _ _).mono ?_
 rintro e w1 ⟨rfl, rfl⟩
 cases hq : inR s.length 1 8
 ·go_wp2
  go_ret
  exact ⟨ret_bool (by unfold validPart; unfold inR at hq; rw [show (decide (1 ≤ s.length) && decide (s.length ≤ 8)) = false from by (rw [Bool.eq_iff_iff] at hq ⊢; simp at hq ⊢; omega)]; simp), rfl⟩
 have HL := Lib.hid hq
 go_wp2
 go_loopw [3] (fun i wr => ∃ k : Nat, k ≤ s.length ∧ i = .int .i64 k ∧ (s.take k).all okByte = true ∧ wr = w1) (fun i _ => s.length - (intOf i).toNat)
 case atStart => exact ⟨0, by omega, by first | rfl | simp, rfl, rfl⟩
 case round =>
  obtain ⟨k, hk, rfl, ht, rfl⟩ := hrel
  have HT := Lib.hid ht
  clear ht
  by_cases hlt : k < s.length
  ·have hs1 := all_take_succ okByte s hlt
   have HS := Lib.hid hs1
   clear hs1
   have HR : Hid (∀ c : Int, c = (s[k].toNat : Int) → okByte s[k] = (inR c 97 122 || inR c 48 57 || decide (c = 45))) := fun c hc => by
    subst hc; unfold okByte inR; (rw [Bool.eq_iff_iff]; simp; omega)
   go_wp2_with fail
   have hr := HR.out _ (bytes_at s k hlt hlt)
   have hcb : 0 ≤ (s[k].toNat : Int) ∧ (s[k].toNat : Int) ≤ 255 := by have := UInt8.toNat_lt s[k]; omega
   rw [← bytes_at s k hlt hlt] at hcb
   generalize ((({ data := s.toArray } : ByteArray)[k]'hlt).toNat : Int) = c at hr hcb ⊢
   have hwc : wrap64 c = c := by unfold wrap64; omega
   try rw [hwc]
   refine (C_spec_l1In _ c _ _).mono ?_
   rintro e w2 ⟨rfl, rfl⟩
   cases h1 : inR c 97 122
   ·go_wp2_with fail
    try rw [hwc]
    refine (C_spec_l1In _ c _ _).mono ?_
    rintro e w3 ⟨rfl, rfl⟩
    cases h2 : inR c 48 57
    ·by_cases h3 : c = 45
     ·have q3 : (c != 45) = false := by simp [h3]
      have HC := Lib.hid (show okByte s[k] = true from by rw [hr, h1, h2]; simp [h3])
      clear h3 hr
      go_wp2
      go_roundw
      case rel => exact ⟨k + 1, by omega, by go_num, by rw [HS.out, HT.out, HC.out]; rfl, by first | rfl | trivial⟩
      case measure => simp [intOf]; omega
     ·have q3 : (c != 45) = true := by simp [h3]
      have HC := Lib.hid (show okByte s[k] = false from by rw [hr, h1, h2]; simp [h3])
      clear h3 hr
      go_wp2
      go_ret
      exact ⟨ret_bool (by unfold validPart; rw [all_false_of okByte s hlt HC.out]; rfl), rfl⟩
    ·have HC := Lib.hid (show okByte s[k] = true from by rw [hr, h1, h2]; simp)
     clear hr
     go_wp2
     go_roundw
     case rel => exact ⟨k + 1, by omega, by go_num, by rw [HS.out, HT.out, HC.out]; rfl, by first | rfl | trivial⟩
     case measure => simp [intOf]; omega
   ·have HC := Lib.hid (show okByte s[k] = true from by rw [hr, h1]; simp)
    clear hr
    go_wp2
    go_roundw
    case rel => exact ⟨k + 1, by omega, by go_num, by rw [HS.out, HT.out, HC.out]; rfl, by first | rfl | trivial⟩
    case measure => simp [intOf]; omega
  ·have HE : Hid (s.all okByte = true) := by have := HT.out; rwa [List.take_of_length_le b_34] at this
   go_wp2
   go_ret
   exact ⟨ret_bool (by unfold validPart; rw [HE.out]; have := HL.out; unfold inR at this; simp at this ⊢; omega), rfl⟩
set_option maxHeartbeats 1000000 in
theorem C_spec_ValidName (w : World) (cs : List Value) (x : List (List UInt8)) (h : (Ty.sl .str).rd w cs x) :
  Calls Try.prog 133 #[.agg cs.toArray] w (RetB w (validName x)) := by
 obtain ⟨A, c, rfl⟩ := Ty.rd_slv h
 obtain ⟨_, _, _, hcc, hmm, hn⟩ := Ty.rd_sl h
 go_enter Try.func133, Try.ntmps133
 go_wp2
 go_loopw [3] (fun i wr => ∃ k : Nat, k ≤ x.length ∧ i = .int .i64 k ∧ (x.take k).all validPart = true ∧ Below (w.alloc (.cells #[.slice A x.length c] 27)).heap.size (w.alloc (.cells #[.slice A x.length c] 27)) wr) (fun i _ => x.length - (intOf i).toNat)
 case atStart => exact ⟨0, by omega, rfl, by first | rfl | simp, Below.refl _ _⟩
 case round =>
  obtain ⟨k, hk, rfl, ht, hb⟩ := hrel
  have hw : Below w.heap.size w wr := bel_trans b_6 hb
  obtain ⟨hc, hf⟩ := bcell hb
  have HT := Lib.hid ht
  clear ht
  by_cases hlt : k < x.length
  ·have HS := Lib.hid (all_take_succ validPart x hlt)
   obtain ⟨b, o, rfl, e0, n0⟩ := Ty.rd_str_at (Ty.rd_below hw h) hlt
   go_wp2_with fail
   refine (C_spec_ValidPart _ _ n0).mono ?_
   rintro e w2 ⟨rfl, rfl⟩
   cases hq : validPart x[k]
   ·go_wp2
    go_ret
    exact ⟨ret_bool (by unfold validName; rw [all_false_of validPart x hlt hq]; rfl), hw⟩
   ·have HQ := Lib.hid hq
    go_wp2
    go_roundw
    case rel => exact ⟨k + 1, by omega, by go_num, by rw [HS.out, HT.out, HQ.out]; rfl, hb⟩
    case measure => simp [intOf]; omega
  ·have HE : Hid (x.all validPart = true) := by have := HT.out; rwa [List.take_of_length_le b_34] at this
   go_wp2
   go_ret
   exact ⟨ret_bool (by unfold validName; rw [HE.out]; (rw [Bool.eq_iff_iff]; simp; try omega)), hw⟩
def ixf {α : Type} (p : α → Bool) (x : List α) : Int := match x.findIdx? p with | some k => (k : Int) | none => -1
theorem ixf_hit {α : Type} (p : α → Bool) (x : List α) {k : Nat} (h : k < x.length) (ht : (x.take k).any p = false) (hp : p x[k] = true) : ixf p x = k := by
 unfold ixf
 rw [List.findIdx?_eq_some_iff_getElem.2 ⟨h, hp, fun j hj => by
  have := List.any_eq_false.1 ht ((x.take k)[j]'(by rw [List.length_take]; omega)) (List.getElem_mem _)
  rw [List.getElem_take] at this; exact this⟩]
theorem ixf_miss {α : Type} (p : α → Bool) (x : List α) (ht : x.any p = false) : ixf p x = -1 := by
 unfold ixf
 rw [List.findIdx?_eq_none_iff.2 (fun a ha => by simpa using List.any_eq_false.1 ht a ha)]
theorem ixf_ge {α : Type} (p : α → Bool) (x : List α) : decide (ixf p x ≥ 0) = x.any p := by
 unfold ixf
 cases hq : x.findIdx? p with
 | none => rw [List.findIdx?_eq_none_iff] at hq; symm; simp; exact hq
 | some k => rw [List.findIdx?_eq_some_iff_getElem] at hq; obtain ⟨h, hp, _⟩ := hq; symm; simp; exact ⟨x[k], List.getElem_mem h, hp⟩
set_option maxHeartbeats 1000000 in
theorem C_IndexFunc_str (w : World) (v : Value) (x : List (List UInt8)) (p : List UInt8 → Bool) (g : Nat) (lb : Array Value) (eg : ∀ args w, (callFunc g args).run Try.prog w = .ok (.enter g args) w)
  (h : (Ty.sl .str).rd w [v] x) (hp : ∀ (W : World) (s : List UInt8), s.length ≤ 9223372036854775807 → Below w.heap.size w W → Calls Try.prog g (#[vS s] ++ lb) W (RetB W (p s))) :
  Calls Try.prog 178 #[v, .func (.func g) #[] lb] w (RetI w (ixf p x)) := by
 obtain ⟨A, c, rfl, hc, hm, hn⟩ := Ty.rd_sl h
 have HP := Lib.hid hp
 clear hp
 go_enter Try.func178, Try.ntmps178
 go_wp2
 go_loopw [8] (fun i wr => ∃ k : Nat, k ≤ x.length ∧ i = .int .i64 k ∧ (x.take k).any p = false ∧ Below w.heap.size w wr) (fun i _ => x.length - (intOf i).toNat)
 case atStart => exact ⟨0, by omega, by first | rfl | simp, by first | rfl | simp, Below.refl _ _⟩
 case round =>
  obtain ⟨k, hk, rfl, ht, hb⟩ := hrel
  have HT := Lib.hid ht
  clear ht
  by_cases hlt : k < x.length
  ·have HS := Lib.hid (any_take_succ p x hlt)
   obtain ⟨b, o, rfl, e0, n0⟩ := Ty.rd_str_at (Ty.rd_below hb h) hlt
   have hcall := HP.out wr x[k] n0 hb
   cases hq : p x[k]
   ·have HQ := Lib.hid hq
    rw [hq] at hcall
    go_wp2_with (go_at_fn g; refine hcall.mono ?_; rintro e w' ⟨rfl, hb'⟩)
    go_roundw
    case rel => exact ⟨k + 1, by omega, by go_num, by rw [HS.out, HT.out, HQ.out]; rfl, bel_trans hb hb'⟩
    case measure => simp [intOf]; omega
   ·have HQ := Lib.hid hq
    rw [hq] at hcall
    go_wp2_with (go_at_fn g; refine hcall.mono ?_; rintro e w' ⟨rfl, hb'⟩)
    go_ret
    exact ⟨ret_int (ixf_hit p x hlt HT.out HQ.out).symm, bel_trans hb hb'⟩
  ·have HE : Hid (x.any p = false) := by have := HT.out; rwa [List.take_of_length_le b_34] at this
   go_wp2
   go_ret
   exact ⟨ret_int (ixf_miss p x HE.out).symm, hb⟩
set_option maxHeartbeats 1000000 in
theorem C_ContainsFunc_str (w : World) (v : Value) (x : List (List UInt8)) (p : List UInt8 → Bool) (g : Nat) (lb : Array Value) (eg : ∀ args w, (callFunc g args).run Try.prog w = .ok (.enter g args) w)
  (h : (Ty.sl .str).rd w [v] x) (hp : ∀ (W : World) (s : List UInt8), s.length ≤ 9223372036854775807 → Below w.heap.size w W → Calls Try.prog g (#[vS s] ++ lb) W (RetB W (p s))) :
  Calls Try.prog 160 #[v, .func (.func g) #[] lb] w (RetB w (x.any p)) := by
 have hcall := C_IndexFunc_str w v x p g lb eg h hp
 go_enter Try.func160, Try.ntmps160
 go_wp2_with fail
 refine hcall.mono ?_
 rintro e w1 ⟨rfl, hb⟩
 go_wp2
 go_ret
 exact ⟨ret_bool (ixf_ge p x), hb⟩
set_option maxHeartbeats 1000000 in
theorem C_impl_ValidName (w : World) (cs : List Value) (x : List (List UInt8)) (h : (Ty.sl .str).rd w cs x) :
  Calls Try.prog 113 #[.agg cs.toArray] w (RetB w (validName x)) := by
 obtain ⟨A, c, rfl⟩ := Ty.rd_slv h
 by_cases hl : x.length ≤ 6
 ·have HL := Lib.hid hl
  go_enter Try.func113, Try.ntmps113
  go_wp2_with fail
  refine (C_ContainsFunc_str _ _ x (fun s => !validPart s) 161 #[] (enters_of Try.func161 b_31 rfl) (Ty.rd_below b_6 h) (fun W s hs _ => by rw [Array.append_empty]; refine (C_impl_ValidName1 W s hs).mono ?_; rintro e w' ⟨rfl, rfl⟩; exact ⟨rfl, Below.refl _ _⟩)).mono ?_
  rintro e w1 ⟨rfl, hb⟩
  have hw1 : Below w.heap.size w w1 := bel_trans b_6 hb
  go_wp2
  go_ret
  exact ⟨ret_bool (by unfold validName; have := HL.out; (rw [Bool.eq_iff_iff]; simp; try omega)), hw1⟩
 ·have HL := Lib.hid hl
  go_enter Try.func113, Try.ntmps113
  go_wp2
  go_ret
  exact ⟨ret_bool (by unfold validName; have := HL.out; (rw [Bool.eq_iff_iff]; simp; try omega)), b_6⟩
def RetAgg2 (w : World) (t : Ty) (x : t.D) (u : Value) (e : Ending) (w' : World) : Prop :=
 ∃ cs fp, e = .returned (.tuple #[.agg cs.toArray, u]) ∧ t.ow w' cs x fp ∧ Fr w w' fp ∧ Below w.heap.size w w'
theorem rd_ow_nil (w : World) (e : Ty) : (Ty.sl e).ow w [.slice none 0 0] [] [] := ⟨none, 0, rfl, Nat.le_refl _, ⟨Nat.zero_le _, fun _ => rfl⟩, by simp, .inl ⟨rfl, rfl⟩⟩
end Go.Proofs.Ytldgbnlcnlfmeaa
