/- Texts of this claim, merged by a program: Base Opn Row Stp. -/
import Derived.Test.YtidnahocnhcoiaaGreatDoorQrP
import Derived.WalkKit
import Derived.WalkSpells
import Derived.Lib.Hide
import Derived.Deep.QuietTactic
import Derived.BigQuiet
import Derived.ProofKit
import Derived.OpenShut
import Derived.ChangeOld
import Derived.Deep.Slices
import Derived.OwnWalk
import Derived.ArgAppend
import Derived.Laws.OwnMore
import Derived.Deep.RegionHeld3
namespace Go.Proofs.YtidnahocnhcoiaaGreatDoor
open Go.RowKit
set_option linter.unusedVariables false
set_option linter.unusedSimpArgs false
inductive Ty where
 | int | byte | bool | str
 | sl (e : Ty)
 | pr (a b : Ty)
@[reducible] def Ty.D : Ty → Type
 | .int => Int
 | .byte => UInt8
 | .bool => Bool
 | .str => List UInt8
 | .sl e => List e.D
 | .pr a b => a.D × b.D
def Ty.sz : Ty → Nat
 | .pr a b => a.sz + b.sz
 | _ => 1
def rdInt (cs : List Value) (n : Int) : Prop := cs = [.int .i64 n] ∧ -9223372036854775808 ≤ n ∧ n ≤ 9223372036854775807
def rdByte (cs : List Value) (n : UInt8) : Prop := cs = [.int .u8 (n.toNat : Int)]
def rdBool (cs : List Value) (b : Bool) : Prop := cs = [.bool b]
abbrev vS (s : List UInt8) : Value := .string ⟨s.toArray⟩
def rdStr (cs : List Value) (s : List UInt8) : Prop := cs = [vS s] ∧ s.length ≤ 9223372036854775807
def rdSl {α : Type} (w : World) (sz : Nat) (rd : List Value → α → Prop) (cs : List Value) (x : List α) : Prop :=
 ∃ A c, cs = [.slice A x.length c] ∧ x.length ≤ c ∧ (c ≤ maxLen ∧ (A = none → c = 0)) ∧ x.length ≤ 9223372036854775807 ∧
  (0 < x.length → ∃ b o, A = some ⟨b, o, none⟩ ∧
   ∀ i (h : i < x.length), ∃ ds : List Value, ds.length = sz ∧ (∀ j, j < sz → w.cell? ⟨b, o + i * sz + j, none⟩ = ds[j]?) ∧ rd ds x[i])
def Ty.rd (w : World) : (t : Ty) → List Value → t.D → Prop
 | .int, cs, x => rdInt cs x
 | .byte, cs, x => rdByte cs x
 | .bool, cs, x => rdBool cs x
 | .str, cs, x => rdStr cs x
 | .sl e, cs, x => rdSl w e.sz (fun ds d => e.rd w ds d) cs x
 | .pr a b, cs, x => ∃ c1 c2, cs = c1 ++ c2 ∧ a.rd w c1 x.1 ∧ b.rd w c2 x.2
def owSl {α : Type} (w : World) (sz : Nat) (ow : List Value → α → List Nat → Prop) (cs : List Value) (x : List α) (fp : List Nat) : Prop :=
  ∃ A c, cs = [.slice A x.length c] ∧ x.length ≤ c ∧ (c ≤ maxLen ∧ (A = none → c = 0)) ∧ x.length ≤ 9223372036854775807 ∧
    ((x.length = 0 ∧ fp = []) ∨
     (0 < x.length ∧ ∃ b o, ∃ fs : Nat → List Nat, A = some ⟨b, o, none⟩ ∧ fp = b :: (List.range x.length).flatMap fs ∧
      ∀ i (h : i < x.length), ∃ ds : List Value, ds.length = sz ∧
        (∀ j, j < sz → w.cell? ⟨b, o + i * sz + j, none⟩ = ds[j]? ∧ w.frozen? ⟨b, o + i * sz + j, none⟩ = false) ∧ ow ds x[i] (fs i)))
def Ty.ow (w : World) : (t : Ty) → List Value → t.D → List Nat → Prop
 | .sl e, cs, x, fp => owSl w e.sz (fun ds d f => e.ow w ds d f) cs x fp
 | .pr a b, cs, x, fp => ∃ c1 c2 f1 f2, cs = c1 ++ c2 ∧ fp = f1 ++ f2 ∧ a.ow w c1 x.1 f1 ∧ b.ow w c2 x.2 f2
 | .int, cs, x, fp => rdInt cs x ∧ fp = []
 | .byte, cs, x, fp => rdByte cs x ∧ fp = []
 | .bool, cs, x, fp => rdBool cs x ∧ fp = []
 | .str, cs, x, fp => rdStr cs x ∧ fp = []
theorem Ty.rd_len {w : World} : ∀ {t : Ty} {cs : List Value} {x : t.D}, t.rd w cs x → cs.length = t.sz
 | .int, _, _, h => by rw [h.1]; rfl
 | .byte, _, _, h => by rw [show _ = _ from h]; rfl
 | .bool, _, _, h => by rw [show _ = _ from h]; rfl
 | .str, _, _, h => by rw [h.1]; rfl
 | .sl _, _, _, ⟨_, _, h, _⟩ => by rw [h]; rfl
 | .pr a b, _, _, ⟨c1, c2, h, h1, h2⟩ => by
  rw [h, List.length_append, Ty.rd_len h1, Ty.rd_len h2]; rfl
theorem Ty.rd_below {w w' : World} (hb : Below w.heap.size w w') : ∀ {t : Ty} {cs : List Value} {x : t.D}, t.rd w cs x → t.rd w' cs x
 | .int, _, _, h => h
 | .byte, _, _, h => h
 | .bool, _, _, h => h
 | .str, _, _, h => h
 | .sl e, _, _, ⟨A, c, h1, h2, h3, h4, h5⟩ => ⟨A, c, h1, h2, h3, h4, fun hn => by
   obtain ⟨b, o, hA, hc⟩ := h5 hn
   refine ⟨b, o, hA, fun i hi => ?_⟩
   obtain ⟨ds, hl, hcell, hr⟩ := hc i hi
   refine ⟨ds, hl, fun j hj => ?_, Ty.rd_below hb hr⟩
   have hv : w.cell? ⟨b, o + i * e.sz + j, none⟩ = some (ds[j]'(by omega)) := by rw [hcell j hj]; exact List.getElem?_eq_getElem b_22
   have hlt : b < w.heap.size := World.block_lt_of_cell? w _ hv
   rw [hb.cell (p := ⟨b, o + i * e.sz + j, none⟩) hlt]
   exact hcell j hj⟩
 | .pr _ _, _, _, ⟨c1, c2, h, h1, h2⟩ => ⟨c1, c2, h, Ty.rd_below hb h1, Ty.rd_below hb h2⟩
def FrI (lo hi : Nat) (fp : List Nat) : Prop := fp.Nodup ∧ ∀ b ∈ fp, lo ≤ b ∧ b < hi
theorem FrI.nil (lo hi : Nat) : FrI lo hi [] := ⟨List.nodup_nil, fun b hb => absurd hb b_23⟩
theorem FrI.mono {lo hi lo' hi' : Nat} {fp : List Nat} (h : FrI lo hi fp) (h1 : lo' ≤ lo) (h2 : hi ≤ hi') : FrI lo' hi' fp := ⟨h.1, fun b hb => by have := h.2 b hb; omega⟩
theorem FrI.app {lo m m' hi : Nat} {f g : List Nat} (h1 : FrI lo m f) (h2 : FrI m' hi g) (h12 : m ≤ m') (hlo : lo ≤ m') (hhi : m ≤ hi) : FrI lo hi (f ++ g) := by
 refine ⟨List.nodup_append.2 ⟨h1.1, h2.1, fun a ha b hb => ?_⟩, fun b hb => ?_⟩
 ·have := h1.2 a ha; have := h2.2 b hb; omega
 ·rcases List.mem_append.1 hb with hb | hb
  ·have := h1.2 b hb; omega
  ·have := h2.2 b hb; omega
abbrev Fr (w w' : World) (fp : List Nat) : Prop := FrI w.heap.size w'.heap.size fp
theorem Fr.later {w w1 w2 w3 : World} {fp : List Nat} (h : Fr w1 w2 fp) (h1 : Below w.heap.size w w1) (h2 : w2.heap.size ≤ w3.heap.size) : Fr w w3 fp := h.mono h1.size h2
theorem Fr.mk_ {w w' : World} {n g : Nat} {l : List Nat} (h1 : w.heap.size ≤ g) (h2 : g < w'.heap.size) (hl : l.Nodup) (h3 : ∀ b ∈ l, g < b ∧ b < w'.heap.size) : Fr w w' (if n = 0 then [] else g :: l) := by
 by_cases h0 : n = 0
 ·rw [if_pos h0]; exact ⟨List.nodup_nil, fun b hb => absurd hb b_23⟩
 ·rw [if_neg h0]
  refine ⟨List.nodup_cons.2 ⟨fun hg => absurd (h3 g hg).1 (Nat.lt_irrefl g), hl⟩, fun b hb => ?_⟩
  rcases List.mem_cons.1 hb with rfl | hb
  ·exact ⟨h1, h2⟩
  ·have := h3 b hb; omega
def RetSl (w : World) (t : Ty) (x : List t.D) (e : Ending) (w' : World) : Prop :=
 ∃ A c fp, e = .returned (.slice A x.length c) ∧ (Ty.sl t).ow w' [.slice A x.length c] x fp ∧ Fr w w' fp ∧ Below w.heap.size w w'
def RetAgg (w : World) (t : Ty) (x : t.D) (e : Ending) (w' : World) : Prop :=
 ∃ cs fp, e = .returned (.agg cs.toArray) ∧ t.ow w' cs x fp ∧ Fr w w' fp ∧ Below w.heap.size w w'
def Blk (w : World) (g : Nat) (t : TypeId) (cs : Array Value) : Prop := w.heap[g]? = some (.cells cs t (0, 0))
section
variable {w w' : World} {g : Nat} {t : TypeId} {cs : Array Value}
theorem Blk.lt (h : Blk w g t cs) : g < w.heap.size := by
 rcases Nat.lt_or_ge g w.heap.size with hlt | hge
 ·exact hlt
 ·unfold Blk at h; rw [Array.getElem?_eq_none hge] at h; cases h
theorem Blk.cell (h : Blk w g t cs) (i : Nat) : w.cell? ⟨g, i, none⟩ = cs[i]? := cell_of_row w g i cs t (0, 0) h
theorem Blk.frozen (h : Blk w g t cs) (i : Nat) : w.frozen? ⟨g, i, none⟩ = false := by
 unfold Blk at h
 simp [World.frozen?, h]
theorem Blk.new (w : World) (t : TypeId) (cs : Array Value) : Blk (w.alloc (.cells cs t)) w.heap.size t cs := heap_alloc_new w _
theorem bk1 {w : World} {g : Nat} {t : TypeId} {a : Value} (h : Blk w g t #[a]) : w.cell? ⟨g, 0, none⟩ = some a ∧ w.frozen? ⟨g, 0, none⟩ = false ∧ g < w.heap.size := ⟨h.cell 0, h.frozen 0, h.lt⟩
theorem bk2 {w : World} {g : Nat} {t : TypeId} {a b : Value} (h : Blk w g t #[a, b]) : w.cell? ⟨g, 0, none⟩ = some a ∧ w.cell? ⟨g, 1, none⟩ = some b ∧ w.frozen? ⟨g, 0, none⟩ = false ∧ w.frozen? ⟨g, 1, none⟩ = false ∧ g < w.heap.size := ⟨h.cell 0, h.cell 1, h.frozen 0, h.frozen 1, h.lt⟩
theorem bk3 {w : World} {g : Nat} {t : TypeId} {a b c : Value} (h : Blk w g t #[a, b, c]) : w.cell? ⟨g, 0, none⟩ = some a ∧ w.cell? ⟨g, 1, none⟩ = some b ∧ w.cell? ⟨g, 2, none⟩ = some c ∧ w.frozen? ⟨g, 0, none⟩ = false ∧ w.frozen? ⟨g, 1, none⟩ = false ∧ w.frozen? ⟨g, 2, none⟩ = false ∧ g < w.heap.size := ⟨h.cell 0, h.cell 1, h.cell 2, h.frozen 0, h.frozen 1, h.frozen 2, h.lt⟩
theorem bk4 {w : World} {g : Nat} {t : TypeId} {a b c d : Value} (h : Blk w g t #[a, b, c, d]) : w.cell? ⟨g, 0, none⟩ = some a ∧ w.cell? ⟨g, 1, none⟩ = some b ∧ w.cell? ⟨g, 2, none⟩ = some c ∧ w.cell? ⟨g, 3, none⟩ = some d ∧ w.frozen? ⟨g, 0, none⟩ = false ∧ w.frozen? ⟨g, 1, none⟩ = false ∧ w.frozen? ⟨g, 2, none⟩ = false ∧ w.frozen? ⟨g, 3, none⟩ = false ∧ g < w.heap.size := ⟨h.cell 0, h.cell 1, h.cell 2, h.cell 3, h.frozen 0, h.frozen 1, h.frozen 2, h.frozen 3, h.lt⟩
theorem bk5 {w : World} {g : Nat} {t : TypeId} {a b c d e : Value} (h : Blk w g t #[a, b, c, d, e]) : w.cell? ⟨g, 0, none⟩ = some a ∧ w.cell? ⟨g, 1, none⟩ = some b ∧ w.cell? ⟨g, 2, none⟩ = some c ∧ w.cell? ⟨g, 3, none⟩ = some d ∧ w.cell? ⟨g, 4, none⟩ = some e ∧ w.frozen? ⟨g, 0, none⟩ = false ∧ w.frozen? ⟨g, 1, none⟩ = false ∧ w.frozen? ⟨g, 2, none⟩ = false ∧ w.frozen? ⟨g, 3, none⟩ = false ∧ w.frozen? ⟨g, 4, none⟩ = false ∧ g < w.heap.size := ⟨h.cell 0, h.cell 1, h.cell 2, h.cell 3, h.cell 4, h.frozen 0, h.frozen 1, h.frozen 2, h.frozen 3, h.frozen 4, h.lt⟩
theorem bk6 {w : World} {g : Nat} {t : TypeId} {a b c d e f : Value} (h : Blk w g t #[a, b, c, d, e, f]) : w.cell? ⟨g, 0, none⟩ = some a ∧ w.cell? ⟨g, 1, none⟩ = some b ∧ w.cell? ⟨g, 2, none⟩ = some c ∧ w.cell? ⟨g, 3, none⟩ = some d ∧ w.cell? ⟨g, 4, none⟩ = some e ∧ w.cell? ⟨g, 5, none⟩ = some f ∧ w.frozen? ⟨g, 0, none⟩ = false ∧ w.frozen? ⟨g, 1, none⟩ = false ∧ w.frozen? ⟨g, 2, none⟩ = false ∧ w.frozen? ⟨g, 3, none⟩ = false ∧ w.frozen? ⟨g, 4, none⟩ = false ∧ w.frozen? ⟨g, 5, none⟩ = false ∧ g < w.heap.size := ⟨h.cell 0, h.cell 1, h.cell 2, h.cell 3, h.cell 4, h.cell 5, h.frozen 0, h.frozen 1, h.frozen 2, h.frozen 3, h.frozen 4, h.frozen 5, h.lt⟩
theorem cell_new (w : World) (t : TypeId) (cs : Array Value) (i : Nat) {g : Nat} (hg : g = w.heap.size) : (w.alloc (.cells cs t)).cell? ⟨g, i, none⟩ = cs[i]? := by
 subst hg; exact (Blk.new w t cs).cell i
theorem Blk.drew (h : Blk w g t cs) : Blk w.drew g t cs := h
theorem Blk.drewN (h : Blk w g t cs) (n : Nat) : Blk (w.drewN n) g t cs := h
theorem Blk.alloc (h : Blk w g t cs) (o : Obj) : Blk (w.alloc o) g t cs := (Below.heap_alloc w o g h.lt).trans h
theorem Blk.set_ (h : Blk w g t cs) (i : Nat) (u : Value) : Blk (w.setCell ⟨g, i, none⟩ u) g t (cs.setIfInBounds i u) := by
 unfold Blk at h ⊢
 simp [World.setCell, Array.getElem?_modify, h]
theorem Blk.far (h : Blk w g t cs) {p : Addr} (hp : g ≠ p.block) (u : Value) : Blk (w.setCell p u) g t cs := (Below.heap_setCell w p u g hp).trans h
theorem Blk.below {B : Nat} (h : Blk w g t cs) (hb : Below B w w') (hg : g < B) : Blk w' g t cs := (hb.block g hg).trans h
theorem Blk.grown {row : Option Nat} (h : Blk w g t cs) (hb : w.grownBy w' row) (hg : some g ≠ row) : Blk w' g t cs := (hb.block g h.lt hg).trans h
end
theorem Ty.ow_mk {w : World} {e : Ty} {g o c : Nat} {t : TypeId} {cur : Array Value} {xs : List e.D} (fs : Nat → List Nat) (hb : Blk w g t cur) (hc : xs.length ≤ c) (hm : c ≤ maxLen) (hn : xs.length ≤ 9223372036854775807)
  (h : ∀ i (hi : i < xs.length), ∃ ds : List Value, ds.length = e.sz ∧ (∀ j, j < e.sz → cur[o + i * e.sz + j]? = ds[j]?) ∧ e.ow w ds xs[i] (fs i)) :
  (Ty.sl e).ow w [.slice (some ⟨g, o, none⟩) xs.length c] xs (if xs.length = 0 then [] else g :: (List.range xs.length).flatMap fs) := by
 refine ⟨_, c, rfl, hc, ⟨hm, fun h => by cases h⟩, hn, ?_⟩
 by_cases h0 : xs.length = 0
 ·left
  exact ⟨h0, if_pos h0⟩
 ·right
  refine ⟨by show 0 < xs.length; omega, g, o, fs, rfl, if_neg h0, fun i hi => ?_⟩
  obtain ⟨ds, h1, h2, h3⟩ := h i hi
  exact ⟨ds, h1, fun j hj => ⟨(hb.cell _).trans (h2 j hj), hb.frozen _⟩, h3⟩
def RetB (w : World) (b : Bool) (e : Ending) (w' : World) : Prop := e = .returned (.bool b) ∧ Below w.heap.size w w'
def RetI (w : World) (n : Int) (e : Ending) (w' : World) : Prop := e = .returned (.int .i64 n) ∧ Below w.heap.size w w'
theorem size_drewN (w : World) (n : Nat) : (w.drewN n).heap.size = w.heap.size := rfl
theorem szz : (∀ (w : World) (o : Obj), (w.alloc o).heap.size = w.heap.size + 1) ∧ (∀ (w : World) (p : Addr) (v : Value), (w.setCell p v).heap.size = w.heap.size) ∧ (∀ w : World, w.drew.heap.size = w.heap.size) ∧ (∀ (w : World) (n : Nat), (w.drewN n).heap.size = w.heap.size) := ⟨fun _ _ => World.size_alloc .., fun _ _ _ => World.size_setCell .., fun _ => World.size_drew .., fun _ _ => size_drewN ..⟩
theorem bel_alloc {w w1 : World} (h : Below w.heap.size w w1) (o : Obj) : Below w.heap.size w (w1.alloc o) := h.alloc h.size o
theorem bel_trans {w w1 w2 : World} (h : Below w.heap.size w w1) (k : Below w1.heap.size w1 w2) : Below w.heap.size w w2 := h.trans (k.mono h.size)
theorem bel_set {w w1 : World} (h : Below w.heap.size w w1) {p : Addr} (hp : w.heap.size ≤ p.block) (u : Value) : Below w.heap.size w (w1.setCell p u) := h.setCell hp u
theorem bel_drewN {w w1 : World} (h : Below w.heap.size w w1) (n : Nat) : Below w.heap.size w (w1.drewN n) := ⟨h.os, h.tape, h.output, h.size, h.block⟩
theorem bel_drew {w w1 : World} (h : Below w.heap.size w w1) : Below w.heap.size w w1.drew := ⟨h.os, h.tape, h.output, h.size, h.block⟩
theorem bcell {W w1 : World} (hb : Below W.heap.size W w1) : (∀ b o, b < W.heap.size → w1.cell? ⟨b, o, none⟩ = W.cell? ⟨b, o, none⟩) ∧ (∀ b o, b < W.heap.size → w1.frozen? ⟨b, o, none⟩ = W.frozen? ⟨b, o, none⟩) :=
 ⟨fun b o h => hb.cell (p := ⟨b, o, none⟩) h, fun b o h => hb.frozen (p := ⟨b, o, none⟩) h⟩
theorem cell_of_heap {w w' : World} {b : Nat} (h : w'.heap[b]? = w.heap[b]?) (o : Nat) : w'.cell? ⟨b, o, none⟩ = w.cell? ⟨b, o, none⟩ := World.cell?_of_block (w := w) (a := ⟨b, o, none⟩) h
theorem frozen_of_heap {w w' : World} {b : Nat} (h : w'.heap[b]? = w.heap[b]?) (o : Nat) : w'.frozen? ⟨b, o, none⟩ = w.frozen? ⟨b, o, none⟩ := World.frozen?_of_block (w := w) (a := ⟨b, o, none⟩) h
theorem Ty.ow_keep {w w' : World} : ∀ {t : Ty} {cs : List Value} {x : t.D} {fp : List Nat}, (∀ b ∈ fp, w'.heap[b]? = w.heap[b]?) → t.ow w cs x fp → t.ow w' cs x fp
 | .int, _, _, _, _, h => h
 | .byte, _, _, _, _, h => h
 | .bool, _, _, _, _, h => h
 | .str, _, _, _, _, h => h
 | .sl e, _, _, _, hk, ⟨A, c, h1, h2, h3, h4, h5⟩ => ⟨A, c, h1, h2, h3, h4, by
   rcases h5 with h5 | ⟨h0, b, o, fs, hA, hfp, hc⟩
   ·exact .inl h5
   ·refine .inr ⟨h0, b, o, fs, hA, hfp, fun i hi => ?_⟩
    obtain ⟨ds, hl, hcell, hr⟩ := hc i hi
    have hb := hk b (by rw [hfp]; exact List.mem_cons_self)
    refine ⟨ds, hl, fun j hj => ?_, Ty.ow_keep (fun b' hb' => hk b' ?_) hr⟩
    ·rw [cell_of_heap hb, frozen_of_heap hb]; exact hcell j hj
    ·rw [hfp]; exact List.mem_cons_of_mem _ (List.mem_flatMap.2 ⟨i, List.mem_range.2 hi, hb'⟩)⟩
 | .pr _ _, _, _, _, hk, ⟨c1, c2, f1, f2, h, hf, h1, h2⟩ => ⟨c1, c2, f1, f2, h, hf,
   Ty.ow_keep (fun b hb => hk b (by rw [hf]; exact List.mem_append_left _ hb)) h1, Ty.ow_keep (fun b hb => hk b (by rw [hf]; exact List.mem_append_right _ hb)) h2⟩
theorem Ty.ow_rd {w : World} : ∀ {t : Ty} {cs : List Value} {x : t.D} {fp : List Nat}, t.ow w cs x fp → t.rd w cs x
 | .int, _, _, _, h => h.1
 | .byte, _, _, _, h => h.1
 | .bool, _, _, _, h => h.1
 | .str, _, _, _, h => h.1
 | .sl e, _, _, _, ⟨A, c, h1, h2, h3, h4, h5⟩ => ⟨A, c, h1, h2, h3, h4, fun hn => by
   rcases h5 with h5 | ⟨_, b, o, fs, hA, hfp, hc⟩
   ·exact absurd h5.1 b_22
   ·refine ⟨b, o, hA, fun i hi => ?_⟩
    obtain ⟨ds, hl, hcell, hr⟩ := hc i hi
    exact ⟨ds, hl, fun j hj => (hcell j hj).1, Ty.ow_rd hr⟩⟩
 | .pr _ _, _, _, _, ⟨c1, c2, f1, f2, h, hf, h1, h2⟩ => ⟨c1, c2, h, Ty.ow_rd h1, Ty.ow_rd h2⟩
def bulkSl {α : Type} (f : α → Nat) (x : List α) : Nat := x.length + (x.map f).sum
def Ty.bulk : (t : Ty) → t.D → Nat
 | .str, x => List.length x
 | .sl e, x => bulkSl (fun d => e.bulk d) x
 | .pr a b, x => a.bulk x.1 + b.bulk x.2
 | .int, _ => 0
 | .byte, _ => 0
 | .bool, _ => 0
theorem Ty.bulk_len {e : Ty} {x : List e.D} {n : Nat} (h : Ty.bulk (.sl e) x ≤ n) : x.length ≤ n := Nat.le_trans (Nat.le_add_right _ _) h
theorem le_sum_mem {l : List Nat} {a : Nat} (h : a ∈ l) : a ≤ l.sum := by
 induction l with
 | nil => cases h
 | cons b l ih =>
  rw [List.sum_cons]
  rcases List.mem_cons.1 h with rfl | h
  ·omega
  ·have := ih h; omega
theorem Ty.bulk_at {e : Ty} {x : List e.D} {k n : Nat} (h : Ty.bulk (.sl e) x ≤ n) (hk : k < x.length) : e.bulk x[k] ≤ n := by
 have h1 : e.bulk x[k] ≤ (x.map e.bulk).sum := le_sum_mem (List.mem_map.2 ⟨x[k], List.getElem_mem hk, rfl⟩)
 have h2 : x.length + (x.map e.bulk).sum ≤ n := h
 omega
theorem Ty.ow_len {w : World} : ∀ {t : Ty} {cs : List Value} {x : t.D} {fp : List Nat}, t.ow w cs x fp → cs.length = t.sz
 | .int, _, _, _, h => by rw [h.1.1]; rfl
 | .byte, _, _, _, h => by rw [show _ = _ from h.1]; rfl
 | .bool, _, _, _, h => by rw [show _ = _ from h.1]; rfl
 | .str, _, _, _, h => by rw [h.1.1]; rfl
 | .sl _, _, _, _, ⟨_, _, h, _⟩ => by rw [h]; rfl
 | .pr a b, _, _, _, ⟨c1, c2, _, _, h, _, h1, h2⟩ => by
  rw [h, List.length_append, Ty.ow_len h1, Ty.ow_len h2]; rfl
theorem Ty.ow_slv {w : World} {e : Ty} {cs : List Value} {x : List e.D} {fp : List Nat} (h : (Ty.sl e).ow w cs x fp) : ∃ A c, cs = [.slice A x.length c] := by
 obtain ⟨A, c, h1, _⟩ := h
 exact ⟨A, c, h1⟩
theorem Ty.rd_at {w : World} {e : Ty} {A : Option Addr} {n c k : Nat} {xs : List e.D} (h : (Ty.sl e).rd w [.slice A n c] xs) (hk : k < xs.length) :
  ∃ b o ds, A = some ⟨b, o, none⟩ ∧ ds.length = e.sz ∧ (∀ j, j < e.sz → w.cell? ⟨b, o + k * e.sz + j, none⟩ = ds[j]?) ∧ e.rd w ds xs[k] := by
 obtain ⟨A', c', h1, h2, h3, h4, h5⟩ := h
 obtain ⟨b, o, hA, hc⟩ := h5 (by show 0 < xs.length; omega)
 obtain ⟨ds, g1, g2, g3⟩ := hc k hk
 injection h1 with h1 _
 injection h1 with h1 _ _
 exact ⟨b, o, ds, h1.trans hA, g1, g2, g3⟩
theorem Ty.rd_str_at {w : World} {A : Option Addr} {n c k : Nat} {xs : List (List UInt8)} (h : (Ty.sl .str).rd w [.slice A n c] xs) (hk : k < xs.length) :
  ∃ b o, A = some ⟨b, o, none⟩ ∧ w.cell? ⟨b, o + k, none⟩ = some (vS xs[k]) ∧ xs[k].length ≤ 9223372036854775807 := by
 obtain ⟨b, o, ds, hA, hl, hc, hr⟩ := Ty.rd_at h hk
 have := hc 0 b_21
 rw [hr.1] at this
 exact ⟨b, o, hA, by simpa [Ty.sz] using this, hr.2⟩
theorem Ty.rd_slv {w : World} {e : Ty} {cs : List Value} {x : List e.D} (h : (Ty.sl e).rd w cs x) : ∃ A c, cs = [.slice A x.length c] := by
 obtain ⟨A, c, h1, _⟩ := h
 exact ⟨A, c, h1⟩
theorem Ty.rd_sl {w : World} {e : Ty} {v : Value} {xs : List e.D} (h : (Ty.sl e).rd w [v] xs) :
  ∃ A c, v = .slice A xs.length c ∧ xs.length ≤ c ∧ c ≤ maxLen ∧ xs.length ≤ 9223372036854775807 := by
 obtain ⟨A, c, h1, h2, h3, h4, _⟩ := h
 injection h1 with h1 _
 exact ⟨A, c, h1, h2, h3.1, h4⟩
theorem Ty.rd_nil {w : World} {e : Ty} {n c : Nat} {xs : List e.D} (h : (Ty.sl e).rd w [.slice none n c] xs) : c = 0 ∧ xs = [] := by
 obtain ⟨A', c', h1, h2, h3, _⟩ := h
 injection h1 with h1 _
 injection h1 with h1 h5 h6
 subst h1; subst h6
 have h7 := h3.2 rfl
 exact ⟨h7, List.eq_nil_of_length_eq_zero (by show xs.length = 0; omega)⟩
def setList (cur : Array Value) (off : Nat) : List Value → Array Value
 | [] => cur
 | d :: ds => setList (cur.setIfInBounds off d) (off + 1) ds
theorem size_setList : ∀ (ds : List Value) (cur : Array Value) (off : Nat), (setList cur off ds).size = cur.size
 | [], _, _ => rfl
 | d :: ds, cur, off => by rw [setList, size_setList ds]; simp
theorem setList_lt : ∀ (ds : List Value) (cur : Array Value) (off m : Nat), m < off → (setList cur off ds)[m]? = cur[m]?
 | [], _, _, _, _ => rfl
 | d :: ds, cur, off, m, h => by
  rw [setList, setList_lt ds _ _ _ b_22, Array.getElem?_setIfInBounds_ne b_22]
theorem setList_at : ∀ (ds : List Value) (cur : Array Value) (off j : Nat), off + ds.length ≤ cur.size → j < ds.length → (setList cur off ds)[off + j]? = ds[j]?
 | [], _, _, _, _, h => absurd h b_23
 | d :: ds, cur, off, 0, h, _ => by
  rw [setList, setList_lt ds _ _ _ b_22]
  simp only [List.length_cons] at h
  simp only [Nat.add_zero]
  rw [Array.getElem?_setIfInBounds_self_of_lt b_22]
  rfl
 | d :: ds, cur, off, j + 1, h, hj => by
  simp only [List.length_cons] at h hj
  rw [setList, show off + (j + 1) = off + 1 + j by omega, setList_at ds _ _ _ (by simp; omega) b_22]
  rfl
def ToInv (e : Ty) (g : Nat) (t : TypeId) (x : List e.D) (k : Nat) (wr : World) : Prop :=
 ∃ (cur : Array Value) (fs : Nat → List Nat), Blk wr g t cur ∧ cur.size = x.length * e.sz ∧
  (∀ i (hi : i < x.length), i < k → ∃ ds : List Value, ds.length = e.sz ∧ (∀ j, j < e.sz → cur[0 + i * e.sz + j]? = ds[j]?) ∧ e.ow wr ds x[i] (fs i)) ∧
  FrI (g + 1) wr.heap.size ((List.range k).flatMap fs)
theorem ToInv.zero {e : Ty} {g : Nat} {t : TypeId} {x : List e.D} {wr : World} {cur : Array Value} (hb : Blk wr g t cur) (hs : cur.size = x.length * e.sz) : ToInv e g t x 0 wr :=
 ⟨cur, fun _ => [], hb, hs, fun i _ h => absurd h b_22, FrI.nil _ _⟩
theorem ToInv.blk {e : Ty} {g : Nat} {t : TypeId} {x : List e.D} {k : Nat} {wr : World} (h : ToInv e g t x k wr) : ∃ cur, Blk wr g t cur ∧ cur.size = x.length * e.sz := by
 obtain ⟨cur, fs, h1, h2, _⟩ := h
 exact ⟨cur, h1, h2⟩
theorem ToInv.step {e : Ty} {g : Nat} {t : TypeId} {x : List e.D} {k : Nat} {wr w1 w2 : World} {ds : List Value} {fp : List Nat} (h : ToInv e g t x k wr) (hk : k < x.length)
  (hb : Below wr.heap.size wr w1) (how : e.ow w1 ds x[k] fp) (hfr : Fr wr w1 fp) (h2 : ∀ b, b ≠ g → w2.heap[b]? = w1.heap[b]?) (hsz : w2.heap.size = w1.heap.size)
  (hblk : ∀ cur, Blk w1 g t cur → Blk w2 g t (setList cur (k * e.sz) ds)) : ToInv e g t x (k + 1) w2 := by
 obtain ⟨cur, fs, h1, h3, h4, h5⟩ := h
 have hg : g < wr.heap.size := h1.lt
 have hl : ds.length = e.sz := Ty.ow_len how
 have hle : (k + 1) * e.sz ≤ x.length * e.sz := Nat.mul_le_mul_right _ hk
 rw [Nat.succ_mul] at hle
 have hlow : ∀ b ∈ (List.range k).flatMap fs, w2.heap[b]? = wr.heap[b]? := fun b hb' => by
  have := h5.2 b hb'
  rw [h2 b b_22, hb.block b b_22]
 have hfs : (List.range (k + 1)).flatMap (fun i => if i = k then fp else fs i) = (List.range k).flatMap fs ++ fp := by
  have e1 : (List.range k).flatMap (fun i => if i = k then fp else fs i) = (List.range k).flatMap fs := by
   rw [List.flatMap_def, List.flatMap_def]
   congr 1
   exact List.map_congr_left (fun i hi => if_neg (by have := List.mem_range.1 hi; omega))
  rw [List.range_succ, List.flatMap_append, e1]
  simp
 refine ⟨_, fun i => if i = k then fp else fs i, hblk cur (h1.below hb hg), by rw [size_setList]; exact h3, fun i hi hik => ?_, ?_⟩
 ·by_cases he : i = k
  ·subst he
   refine ⟨ds, hl, fun j hj => ?_, ?_⟩
   ·rw [Nat.zero_add]
    exact setList_at ds cur _ j b_22 b_22
   ·dsimp only
    rw [if_pos rfl]
    exact Ty.ow_keep (fun b hb' => h2 b (by have := hfr.2 b hb'; omega)) how
  ·obtain ⟨ds', g1, g2, g3⟩ := h4 i hi b_22
   have hlt : (i + 1) * e.sz ≤ k * e.sz := Nat.mul_le_mul_right _ b_22
   rw [Nat.succ_mul] at hlt
   refine ⟨ds', g1, fun j hj => ?_, ?_⟩
   ·rw [setList_lt _ _ _ _ b_22]
    exact g2 j hj
   ·dsimp only
    rw [if_neg he]
    exact Ty.ow_keep (fun b hb' => hlow b (List.mem_flatMap.2 ⟨i, List.mem_range.2 b_22, hb'⟩)) g3
 ·rw [hfs, hsz]
  exact FrI.app h5 hfr (Nat.le_refl _) b_22 hb.size
theorem ToInv.done {e : Ty} {g c : Nat} {t : TypeId} {x : List e.D} {w wr : World} (h : ToInv e g t x x.length wr) (hg : w.heap.size ≤ g) (hc : x.length ≤ c) (hm : c ≤ maxLen) (hn : x.length ≤ 9223372036854775807) :
  ∃ fp, (Ty.sl e).ow wr [.slice (some ⟨g, 0, none⟩) x.length c] x fp ∧ Fr w wr fp := by
 obtain ⟨cur, fs, h1, h3, h4, h5⟩ := h
 exact ⟨_, Ty.ow_mk fs h1 hc hm hn (fun i hi => h4 i hi hi), Fr.mk_ hg h1.lt h5.1 (fun b hb => by have := h5.2 b hb; omega)⟩
theorem ret_bool {a b : Bool} (h : a = b) : Ending.returned (.bool a) = .returned (.bool b) := by rw [h]
theorem ret_int {k : IntKind} {a b : Int} (h : a = b) : Ending.returned (.int k a) = .returned (.int k b) := by rw [h]
end Go.Proofs.YtidnahocnhcoiaaGreatDoor
namespace Go.Proofs.YtidnahocnhcoiaaGreatDoor
open Go.ChangeShapes Go.WideShapes Go.RowKit
set_option linter.unusedVariables false
set_option linter.unusedSimpArgs false
section
variable {H : Type} {enc : TypeId × Value → H} {P : Program} {w : World} {base : Nat} {spare : Nat → Bool} {held : Bool}
theorem collect {α : Type} (n : Nat) (p : Nat → α → Prop) (h : ∀ i, i < n → ∃ d, p i d) : ∃ xs : List α, xs.length = n ∧ ∀ i (h1 : i < xs.length), p i xs[i] := by
 induction n with
 | zero => exact ⟨[], rfl, fun i h1 => absurd h1 b_23⟩
 | succ k ih =>
  obtain ⟨xs, h1, h2⟩ := ih (fun i hi' => h i b_22)
  obtain ⟨d, hd⟩ := h k b_22
  refine ⟨xs ++ [d], by simp [h1], fun i hi' => ?_⟩
  by_cases hik : i < xs.length
  ·rw [List.getElem_append_left hik]; exact h2 i hik
  ·obtain rfl : i = k := by simp at hi'; omega
   rw [List.getElem_append_right b_22]
   simpa using hd
def Opens (enc : TypeId × Value → H) (P : Program) (w : World) (base : Nat) (spare : Nat → Bool) (held : Bool) (t : TypeId) (e : Ty) : Prop :=
 ∀ (fuel : Nat) (cs : List Value) (x : DataW H × List MemPlace), DataW.trod enc P w base spare held fuel t cs = some x → ∃ d, e.rd w cs d
theorem opens_byte {t : TypeId} (ht : P.underlying t = some (.int .u8)) : Opens enc P w base spare held t .byte := by
 intro fuel cs x h
 obtain ⟨n, rfl, _, hw⟩ := DataW.trod_int ht h
 have := bounds_u8 hw
 refine ⟨UInt8.ofNat n.toNat, ?_⟩
 show _ = _
 congr 2
 rw [UInt8.toNat_ofNat']
 omega
theorem opens_sl {t u : TypeId} {e : Ty} (ht : P.underlying t = some (.slice u)) (hc : P.cellsOf u = e.sz) (hz : 0 < e.sz) (h : Opens enc P w base spare held u e) : Opens enc P w base spare held t (.sl e) := by
 intro fuel cs x hx
 rcases Deep.open_slice ht hx with ⟨rfl, _⟩ | ⟨a, len, cap, m, n, D, Pl, rfl, hb, hl, hm, hmm, _, hi⟩
 ·exact ⟨[], none, 0, rfl, Nat.le_refl _, ⟨Nat.zero_le _, fun _ => rfl⟩, Nat.zero_le _, fun h => absurd h b_23⟩
 ·have hlm : len ≤ m := by rw [hmm]; split <;> omega
  have hel : ∀ i, i < len → ∃ (ds : List Value) (d : e.D), ds.length = e.sz ∧ (∀ j, j < e.sz → w.cell? ((a.add (i * e.sz)).add j) = ds[j]?) ∧ e.rd w ds d := by
   intro i hi'
   obtain ⟨cs', hc', ht'⟩ := hi i b_22
   rw [hc] at hc'
   obtain ⟨_, hcl, hat⟩ := World.cells?_some hc'
   obtain ⟨d, hd⟩ := h _ _ _ ht'
   exact ⟨cs', d, hcl, hat, hd⟩
  have hall := collect len (fun i d => ∃ ds : List Value, ds.length = e.sz ∧ (∀ j, j < e.sz → w.cell? ((a.add (i * e.sz)).add j) = ds[j]?) ∧ e.rd w ds d)
   (fun i hi' => by obtain ⟨ds, d, g⟩ := hel i hi'; exact ⟨d, ds, g⟩)
  obtain ⟨xs, hxl, hxs⟩ := hall
  subst hxl
  refine ⟨xs, some a, cap, rfl, hl, ⟨hm, fun h => by cases h⟩, by unfold maxLen at hm; omega, fun hpos => ?_⟩
  obtain ⟨b, off, spot⟩ := a
  have hspot : spot = none := by
   obtain ⟨ds, g1, g2, _⟩ := hxs 0 hpos
   have h0 := g2 0 hz
   have hv : w.cell? ⟨b, off, spot⟩ = some (ds[0]'(by omega)) := by
    have : w.cell? ⟨b, off, spot⟩ = ds[0]? := by simpa [Addr.add] using h0
    rw [this]; exact List.getElem?_eq_getElem b_22
   exact World.cell?_spot hv
  subst hspot
  refine ⟨b, off, rfl, fun i hi' => ?_⟩
  obtain ⟨ds, g1, g2, g3⟩ := hxs i hi'
  refine ⟨ds, g1, fun j hj => ?_, g3⟩
  have := g2 j hj
  rwa [Addr.add_lit, Addr.add_lit] at this
end
end Go.Proofs.YtidnahocnhcoiaaGreatDoor
namespace Go.Proofs.YtidnahocnhcoiaaGreatDoor
open Go.RowKit
set_option linter.unusedVariables false
set_option linter.unusedSimpArgs false
structure Flat (e : Ty) where
 enc : e.D → Value
 ok : e.D → Prop
 sz : e.sz = 1
 one : ∀ d, (enc d).oneCell' = true
 rd : ∀ (w : World) (cs : List Value) (d : e.D), e.rd w cs d ↔ cs = [enc d] ∧ ok d
 ow : ∀ (w : World) (cs : List Value) (d : e.D) (f : List Nat), e.ow w cs d f ↔ (cs = [enc d] ∧ ok d) ∧ f = []
def flatS : Flat .str := ⟨fun s => vS s, fun s => s.length ≤ 9223372036854775807, rfl, fun _ => rfl, fun _ _ _ => Iff.rfl, fun _ _ _ _ => Iff.rfl⟩
def Row {e : Ty} (F : Flat e) (w : World) (base : Nat) (te : TypeId) (v : Value) (x : List e.D) : Prop :=
 w.ownsRow base te 1 v x.length (x.map F.enc) ∧ ∀ d ∈ x, F.ok d
theorem Row.nil {e : Ty} (F : Flat e) (w : World) (base : Nat) (te : TypeId) : Row F w base te (.slice none 0 0) [] := ⟨World.ownsRow_nil w base te 1, fun d hd => absurd hd b_23⟩
theorem Row.le {e : Ty} {F : Flat e} {w : World} {base : Nat} {te : TypeId} {v : Value} {x : List e.D} (h : Row F w base te v x) : x.length ≤ maxLen := by
 rcases h.1.2 with ⟨_, hn⟩ | ⟨g, cap, cur, _, _, _, h1, h2, _⟩
 ·rw [hn]; exact Nat.zero_le _
 ·exact Nat.le_trans h1 h2
theorem Row.form {e : Ty} {F : Flat e} {w : World} {base : Nat} {te : TypeId} {v : Value} {x : List e.D} (h : Row F w base te v x) : ∃ A c, v = .slice A x.length c := by
 rcases h.1.2 with ⟨rfl, hn⟩ | ⟨g, cap, cur, rfl, _⟩
 ·exact ⟨none, 0, by rw [hn]⟩
 ·exact ⟨_, _, rfl⟩
theorem Row.cells {e : Ty} {F : Flat e} {w : World} {base : Nat} {te : TypeId} {g : Nat} {c : Nat} {x : List e.D} (h : Row F w base te (.slice (some ⟨g, 0, none⟩) x.length c) x) (i : Nat) (hi : i < x.length) :
  w.cell? ⟨g, 0 + i * 1 + 0, none⟩ = some (F.enc x[i]) ∧ w.frozen? ⟨g, 0 + i * 1 + 0, none⟩ = false := by
 rcases h.1.2 with ⟨h', _⟩ | ⟨g', cap', cur, h', _, hg, h3, _, _, htake⟩
 ·simp at h'
 ·simp only [Value.slice.injEq, Option.some.injEq, Addr.mk.injEq, and_true, true_and] at h'
  obtain ⟨rfl, rfl⟩ := h'
  refine ⟨?_, ?_⟩
  ·have := h.1.cellAt i b_22
   rw [show 0 + i * 1 + 0 = i from by omega, this]
   simp [hi]
  ·exact Blk.frozen (t := te) (cs := cur) hg _
theorem Row.own {e : Ty} {F : Flat e} {w : World} {base : Nat} {te : TypeId} {v : Value} {x : List e.D} (h : Row F w base te v x) (hb : base ≤ w.heap.size) :
  ∃ A c fp, v = .slice A x.length c ∧ (Ty.sl e).ow w [v] x fp ∧ FrI base w.heap.size fp := by
 have hl := h.le
 unfold maxLen at hl
 rcases h.1.2 with ⟨rfl, hn⟩ | ⟨g, cap, cur, rfl, hbg, hg, h3, h4, _, htake⟩
 ·have hx : x = [] := List.eq_nil_of_length_eq_zero hn
  subst hx
  exact ⟨none, 0, [], rfl, ⟨none, 0, rfl, by simp, ⟨by unfold maxLen; omega, fun _ => rfl⟩, by simp, .inl ⟨rfl, rfl⟩⟩, FrI.nil _ _⟩
 ·have hlt : g < w.heap.size := Blk.lt (t := te) (cs := cur) hg
  by_cases h0 : x.length = 0
  ·exact ⟨_, _, [], rfl, ⟨_, _, rfl, h3, ⟨h4, fun h => by cases h⟩, by omega, .inl ⟨h0, rfl⟩⟩, FrI.nil _ _⟩
  ·refine ⟨_, _, g :: (List.range x.length).flatMap fun _ => [], rfl, ⟨_, _, rfl, h3, ⟨h4, fun h => by cases h⟩, by omega, .inr ⟨by show 0 < x.length; omega, g, 0, fun _ => [], rfl, rfl, fun i hi => ?_⟩⟩, ?_⟩
   ·refine ⟨[F.enc x[i]], by rw [F.sz]; rfl, fun j hj => ?_, (F.ow _ _ _ _).2 ⟨⟨rfl, h.2 _ (List.getElem_mem hi)⟩, rfl⟩⟩
    rw [F.sz] at hj ⊢
    obtain rfl : j = 0 := by omega
    exact h.cells i hi
   ·rw [List.flatMap_eq_nil_iff.2 (fun _ _ => rfl)]
    refine ⟨by simp, fun b hb' => ?_⟩
    simp at hb'
    omega
theorem Row.rd {e : Ty} {F : Flat e} {w : World} {base : Nat} {te : TypeId} {v : Value} {x : List e.D} (h : Row F w base te v x) (hb : base ≤ w.heap.size) : (Ty.sl e).rd w [v] x := by
 obtain ⟨A, c, fp, _, how, _⟩ := h.own hb
 exact Ty.ow_rd how
theorem Row.block {e : Ty} {F : Flat e} {w : World} {base : Nat} {te : TypeId} {v : Value} {x : List e.D} (h : Row F w base te v x) : ∀ g, v.ownBlock = some g → base ≤ g ∧ g < w.heap.size := by
 intro g hg
 rcases h.1.2 with ⟨rfl, _⟩ | ⟨g', cap', cur, rfl, hbg, hgg, _⟩
 ·simp [Value.ownBlock] at hg
 ·simp [Value.ownBlock] at hg
  subst hg
  exact ⟨hbg, Blk.lt (t := te) (cs := cur) hgg⟩
theorem Row.below {e : Ty} {F : Flat e} {w w' : World} {base : Nat} {te : TypeId} {v : Value} {x : List e.D} (h : Row F w base te v x) (hb : Below w.heap.size w w') : Row F w' base te v x := by
 refine ⟨?_, h.2⟩
 refine ⟨h.1.1, ?_⟩
 rcases h.1.2 with hn | ⟨g, cap, cur, rfl, hbg, hgg, rest⟩
 ·exact .inl hn
 ·exact .inr ⟨g, cap, cur, rfl, hbg, (hb.block g (Blk.lt (t := te) (cs := cur) hgg)).trans hgg, rest⟩
theorem Row.mono {e : Ty} {F : Flat e} {w : World} {base base' : Nat} {te : TypeId} {v : Value} {x : List e.D} (h : Row F w base te v x) (hb : base' ≤ base) : Row F w base' te v x := by
 refine ⟨⟨h.1.1, ?_⟩, h.2⟩
 rcases h.1.2 with hn | ⟨g, cap, cur, rfl, hbg, hgg, rest⟩
 ·exact .inl hn
 ·exact .inr ⟨g, cap, cur, rfl, Nat.le_trans hb hbg, hgg, rest⟩
theorem bel_grown {w0 w w' : World} {B : Nat} {row : Option Nat} (h : Below B w0 w) (hB : B ≤ w.heap.size) (hg : w.grownBy w' row) (hrow : ∀ g, row = some g → B ≤ g) : Below B w0 w' :=
 ⟨hg.os.trans h.os, hg.tape.trans h.tape, hg.output.trans h.output, Nat.le_trans h.size hg.size, fun k hk => (hg.block k b_22 (fun e => by have := hrow k e.symm; omega)).trans (h.block k hk)⟩
theorem Row.lit1 {e : Ty} (F : Flat e) (w : World) (te : TypeId) (d : e.D) (hd : F.ok d) {base : Nat} (hb : base ≤ w.heap.size) : Row F (w.alloc (.cells #[F.enc d] te)) base te (.slice (some ⟨w.heap.size, 0, none⟩) 1 1) [d] :=
 ⟨World.ownsRow_lit w #[F.enc d] 1 hb (by unfold maxLen; omega) b_23, fun a ha => by simp at ha; subst ha; exact hd⟩
theorem Row.lit0 {e : Ty} (F : Flat e) (w : World) (te : TypeId) {base : Nat} (hb : base ≤ w.heap.size) : Row F (w.alloc (.cells #[] te)) base te (.slice (some ⟨w.heap.size, 0, none⟩) 0 0) [] :=
 ⟨World.ownsRow_lit w #[] 0 hb (by unfold maxLen; omega) b_23, fun a ha => absurd ha b_23⟩
theorem run_append_zero {P : Program} {w : World} (base : Nat) (t ty e : TypeId) (i : TypeInfo) (size : Nat) (ht : P.underlying t = some (.slice e)) (hi : P.info? e = some i)
  (v : Value) (n : Nat) (xs : List Value) (hown : w.ownsRow base e size v n xs) (A : Option Addr) (c : Nat) :
  (Builtin.append_ #[t, t] ty #[v, .slice A 0 c]).run P w = .ok v w := by
 rcases hown.2 with ⟨rfl, rfl⟩ | ⟨g, cap, cur, rfl, _, _, hnc, _⟩ <;> cases A <;>
  simp [Builtin.append_, run_underlying ht, sizeOf, typeInfo, hi, Builtin.lenOf, Builtin.firstCells, storeCells, loadCells, loadCellsFrom, *]
theorem run_append_row {P : Program} {w : World} {e : Ty} (F : Flat e) (base : Nat) (t ty te : TypeId) {z : Value} {by_ : Nat} (hinfo : (P.info? te).map (fun i => (i.zero, i.size, i.bytes)) = some (some z, 1, by_)) (hz1 : z.cells.size = 1) (ht : P.underlying t = some (.slice te))
  (v u : Value) (x y : List e.D) (hown : Row F w base te v x) (hy : (Ty.sl e).rd w [u] y) (hbytes : (x.length + y.length) * by_ ≤ 140737488355328) (hlen : x.length + y.length ≤ maxLen) (hbase : base ≤ w.heap.size) :
  ∃ v' w', (Builtin.append_ #[t, t] ty #[v, u]).run P w = .ok v' w' ∧ Row F w' base te v' (x ++ y) ∧ w.grownBy w' v.ownBlock := by
 obtain ⟨i, hi, hzz⟩ := Option.map_eq_some_iff.1 hinfo
 simp only [Prod.mk.injEq] at hzz
 obtain ⟨hz, hsz, hby⟩ := hzz
 obtain ⟨A, c, hu, hyc, hcm, hyn, hcell⟩ := hy
 injection hu with hu _
 subst hu
 have hok : ∀ d ∈ y, F.ok d := by
  intro d hd
  obtain ⟨j, hj, rfl⟩ := List.getElem_of_mem hd
  obtain ⟨b, o, _, h3⟩ := hcell b_22
  obtain ⟨ds, _, _, h4⟩ := h3 j hj
  exact ((F.rd _ _ _).1 h4).2
 by_cases h0 : y.length = 0
 ·have hy0 : y = [] := List.eq_nil_of_length_eq_zero h0
  subst hy0
  exact ⟨v, w, run_append_zero base t ty te i 1 ht hi v _ _ hown.1 A c, by rw [List.append_nil]; exact hown, World.grownBy.refl _ _⟩
 ·obtain ⟨b, o, rfl, h3⟩ := hcell b_22
  obtain ⟨v', w', hr, h2, h4, _⟩ := run_append_own (P := P) w base t ty te i z 1 by_ ht hi hz hsz hby hz1 b_22 v x.length (x.map F.enc) hown.1 ⟨b, o, none⟩ y.length c (y.map F.enc) b_23
   (fun j u hj => by
    have hj' : j < y.length := by
     have := (List.getElem?_eq_some_iff.1 hj).1
     simpa using this
    obtain ⟨ds, h5, h6, h7⟩ := h3 j hj'
    have h8 := ((F.rd _ _ _).1 h7).1
    have h9 := h6 0 (by rw [F.sz]; omega)
    rw [F.sz, h8, show o + j * 1 + 0 = o + j from by omega] at h9
    rw [Addr.add_lit, h9]
    simp [hj'] at hj ⊢
    exact hj)
   (fun u hu => by obtain ⟨d, _, rfl⟩ := List.mem_map.1 hu; exact F.one d) hlen hbytes hbase
  refine ⟨v', w', hr, ⟨?_, fun d hd => ?_⟩, h4⟩
  ·rw [List.length_append, List.map_append]; exact h2
  ·rcases List.mem_append.1 hd with h | h
   ·exact hown.2 d h
   ·exact hok d h
theorem wpList_append_row {P : Program} {w : World} {ops : Array Oper} {rest : List Oper} {o : Oper} {a : Act} {Q : Exit → Act → World → Prop} (hgd : o.guard = none) (s xo : Operand) (t : TypeId)
  (ho : o.op = .call { callee := .builtin .append, args := #[s, xo], argTypes := #[t, t] }) {e : Ty} (F : Flat e) (base : Nat) (te : TypeId) {z : Value} {by_ : Nat}
  (hinfo : (P.info? te).map (fun i => (i.zero, i.size, i.bytes)) = some (some z, 1, by_)) (hz1 : z.cells.size = 1) (ht : P.underlying t = some (.slice te))
  (v u : Value) (x y : List e.D) (hs : a.eval s = v) (hx : a.eval xo = u) (hown : Row F w base te v x) (hy : (Ty.sl e).rd w [u] y) (hbytes : (x.length + y.length) * by_ ≤ 140737488355328) (hlen : x.length + y.length ≤ maxLen) (hbase : base ≤ w.heap.size)
  (h : ∀ v' w', Row F w' base te v' (x ++ y) → w.grownBy w' v.ownBlock → wpList P ops Q rest (a.put o.dst v') w') : wpList P ops Q (o :: rest) a w := by
 obtain ⟨v', w', hr, h2, h3⟩ := run_append_row (P := P) F base t o.type te hinfo hz1 ht v u x y hown hy hbytes hlen hbase
 refine wpList_plain hgd fun K hK => ?_
 unfold Oper.wp execOp
 simp only [ho, resolve, invoke, builtin, Sem.run_bind, Sem.run_pure, Result.andThen_ok, List.map_toArray, List.map_cons, List.map_nil, hs, hx, hr]
 exact hK _ _ (h v' w' h2 h3)
def RetRow {e : Ty} (F : Flat e) (w : World) (te : TypeId) (x : List e.D) (r : Ending) (w' : World) : Prop :=
 ∃ v, r = .returned v ∧ Row F w' w.heap.size te v x ∧ Below w.heap.size w w'
theorem RetRow.sl {e : Ty} {F : Flat e} {w : World} {te : TypeId} {x : List e.D} {r : Ending} {w' : World} (h : RetRow F w te x r w') : RetSl w e x r w' := by
 obtain ⟨v, rfl, hr, hb⟩ := h
 obtain ⟨A, c, fp, rfl, how, hfr⟩ := hr.own hb.size
 exact ⟨A, c, fp, rfl, how, hfr, hb⟩
theorem opN {l : List Oper} {i : Nat} {x : Oper} (h : (l.drop i).head? = some x) : l.toArray[i]? = some x := by
 rw [List.head?_drop] at h
 simpa using h
section
variable {P : Program} {ops : Array Oper} {Q : Exit → Act → World → Prop} {S : World → Prop}
theorem tk (i : Nat) {oi : Oper} {v : Value} {fuel : Nat} {listed : Array Bool} {a : Act} {w : World} (hi : ops[i]? = some oi)
  (hb : (Region.noSelect ops && (Region.free .any ops listed i && (Region.ready .any ops listed).contains i)) = true)
  (hw : Region.wanted oi (yielded ops a.tmps) = true) (hv : ∀ w, S w → (execOp a.eval oi).run P w = .ok (.value v) w) (hS : S w)
  (h : wpAnyH P .any ops (NoPanic Q) S fuel (listed.setIfInBounds i true) (a.put oi.dst v) w) : wpAnyH P .any ops (NoPanic Q) S (fuel + 1) listed a w := by
 simp only [Bool.and_eq_true] at hb
 exact wpAnyH_take hi hb.1 hb.2.1 hb.2.2 (fun _ _ _ h => h) (Or.inl ⟨hw, hv⟩) hS h
theorem sk (i : Nat) {oi : Oper} {fuel : Nat} {listed : Array Bool} {a : Act} {w : World} (hi : ops[i]? = some oi)
  (hb : (Region.noSelect ops && (Region.free .any ops listed i && (Region.ready .any ops listed).contains i)) = true)
  (hw : Region.wanted oi (yielded ops a.tmps) = false) (hS : S w)
  (h : wpAnyH P .any ops (NoPanic Q) S fuel (listed.setIfInBounds i true) (a.put oi.dst undef) w) : wpAnyH P .any ops (NoPanic Q) S (fuel + 1) listed a w := by
 simp only [Bool.and_eq_true] at hb
 exact wpAnyH_take hi hb.1 hb.2.1 hb.2.2 (fun _ _ _ h => h) (Or.inr ⟨hw, rfl⟩) hS h
end
theorem layz : (∀ (a : Act) (d : Tmp) (v : Value), a.put (some d) v = { a with tmps := a.tmps.setIfInBounds d v }) ∧ (∀ (a : Act) (v : Value), a.put none v = a) ∧ (∀ {α : Type} (l : List α) (i : Nat) (x : α), l.toArray.setIfInBounds i x = (l.set i x).toArray) ∧ (∀ {α : Type} (x y : α) (l : List α), (x :: l).set 0 y = y :: l) ∧ (∀ {α : Type} (x y : α) (n : Nat) (l : List α), (x :: l).set (n + 1) y = x :: l.set n y) :=
 ⟨fun _ _ _ => rfl, fun _ _ => rfl, fun _ _ _ => List.setIfInBounds_toArray .., fun _ _ _ => rfl, fun _ _ _ _ => rfl⟩
section
variable {P : Program} {ops : Array Oper} {Q : Exit → Act → World → Prop} {S : World → Prop} {fuel : Nat} {listed : Array Bool} {a : Act} {w : World}
theorem tkz (i : Nat) {oi : Oper} {v : Value} (h : wpAnyH P .any ops (NoPanic Q) S fuel (listed.setIfInBounds i true) (a.put oi.dst v) w)
  (hi : ops[i]? = some oi := by exact opN rfl)
  (hb : (Region.noSelect ops && (Region.free .any ops listed i && (Region.ready .any ops listed).contains i)) = true := by kernel_rfl)
  (hw : Region.wanted oi (yielded ops a.tmps) = true := by rfl)
  (hv : ∀ w, S w → (execOp a.eval oi).run P w = .ok (.value v) w := by (intro w hSw; (try dsimp only at hSw); go_simp; first | done | with_reducible rfl))
  (hS : S w := by assumption) : wpAnyH P .any ops (NoPanic Q) S (fuel + 1) listed a w := tk i hi hb hw hv hS h
theorem skz (i : Nat) {oi : Oper} (h : wpAnyH P .any ops (NoPanic Q) S fuel (listed.setIfInBounds i true) (a.put oi.dst undef) w)
  (hi : ops[i]? = some oi := by exact opN rfl)
  (hb : (Region.noSelect ops && (Region.free .any ops listed i && (Region.ready .any ops listed).contains i)) = true := by kernel_rfl)
  (hw : Region.wanted oi (yielded ops a.tmps) = false := by rfl)
  (hS : S w := by assumption) : wpAnyH P .any ops (NoPanic Q) S (fuel + 1) listed a w := sk i hi hb hw hS h
theorem rz1 (i : Nat) {oi : Oper} (hi : ∀ K : Act → World → Prop, Shut (∀ a w, S w → (S w → wpAnyH P .any ops (NoPanic Q) S fuel (listed.setIfInBounds i true) a w) → K a w) → if Region.wanted oi (yielded ops a.tmps) = true then Oper.wp P oi a w K (NoPanic Q) else K (a.put oi.dst undef) w) (hr : Region.ready .any ops listed = [i] := by kernel_rfl) (gi : ops[i]? = some oi := by exact opN rfl) : wpAnyH P .any ops (NoPanic Q) S (fuel + 1) listed a w := wpAnyH_ready hr b_23 (AllReadyH.cons gi hi AllReadyH.nil)
theorem rz2 (i j : Nat) {oi oj : Oper} (hi : ∀ K : Act → World → Prop, Shut (∀ a w, S w → (S w → wpAnyH P .any ops (NoPanic Q) S fuel (listed.setIfInBounds i true) a w) → K a w) → if Region.wanted oi (yielded ops a.tmps) = true then Oper.wp P oi a w K (NoPanic Q) else K (a.put oi.dst undef) w) (hj : ∀ K : Act → World → Prop, Shut (∀ a w, S w → (S w → wpAnyH P .any ops (NoPanic Q) S fuel (listed.setIfInBounds j true) a w) → K a w) → if Region.wanted oj (yielded ops a.tmps) = true then Oper.wp P oj a w K (NoPanic Q) else K (a.put oj.dst undef) w) (hr : Region.ready .any ops listed = [i, j] := by kernel_rfl) (gi : ops[i]? = some oi := by exact opN rfl) (gj : ops[j]? = some oj := by exact opN rfl) : wpAnyH P .any ops (NoPanic Q) S (fuel + 1) listed a w := wpAnyH_ready hr b_23 (AllReadyH.cons gi hi (AllReadyH.cons gj hj AllReadyH.nil))
theorem rz3 (i j k : Nat) {oi oj ok : Oper} (hi : ∀ K : Act → World → Prop, Shut (∀ a w, S w → (S w → wpAnyH P .any ops (NoPanic Q) S fuel (listed.setIfInBounds i true) a w) → K a w) → if Region.wanted oi (yielded ops a.tmps) = true then Oper.wp P oi a w K (NoPanic Q) else K (a.put oi.dst undef) w) (hj : ∀ K : Act → World → Prop, Shut (∀ a w, S w → (S w → wpAnyH P .any ops (NoPanic Q) S fuel (listed.setIfInBounds j true) a w) → K a w) → if Region.wanted oj (yielded ops a.tmps) = true then Oper.wp P oj a w K (NoPanic Q) else K (a.put oj.dst undef) w) (hk : ∀ K : Act → World → Prop, Shut (∀ a w, S w → (S w → wpAnyH P .any ops (NoPanic Q) S fuel (listed.setIfInBounds k true) a w) → K a w) → if Region.wanted ok (yielded ops a.tmps) = true then Oper.wp P ok a w K (NoPanic Q) else K (a.put ok.dst undef) w) (hr : Region.ready .any ops listed = [i, j, k] := by kernel_rfl) (gi : ops[i]? = some oi := by exact opN rfl) (gj : ops[j]? = some oj := by exact opN rfl) (gk : ops[k]? = some ok := by exact opN rfl) : wpAnyH P .any ops (NoPanic Q) S (fuel + 1) listed a w := wpAnyH_ready hr b_23 (AllReadyH.cons gi hi (AllReadyH.cons gj hj (AllReadyH.cons gk hk AllReadyH.nil)))
theorem rz4 (i j k l : Nat) {oi oj ok ol : Oper} (hi : ∀ K : Act → World → Prop, Shut (∀ a w, S w → (S w → wpAnyH P .any ops (NoPanic Q) S fuel (listed.setIfInBounds i true) a w) → K a w) → if Region.wanted oi (yielded ops a.tmps) = true then Oper.wp P oi a w K (NoPanic Q) else K (a.put oi.dst undef) w) (hj : ∀ K : Act → World → Prop, Shut (∀ a w, S w → (S w → wpAnyH P .any ops (NoPanic Q) S fuel (listed.setIfInBounds j true) a w) → K a w) → if Region.wanted oj (yielded ops a.tmps) = true then Oper.wp P oj a w K (NoPanic Q) else K (a.put oj.dst undef) w) (hk : ∀ K : Act → World → Prop, Shut (∀ a w, S w → (S w → wpAnyH P .any ops (NoPanic Q) S fuel (listed.setIfInBounds k true) a w) → K a w) → if Region.wanted ok (yielded ops a.tmps) = true then Oper.wp P ok a w K (NoPanic Q) else K (a.put ok.dst undef) w) (hl : ∀ K : Act → World → Prop, Shut (∀ a w, S w → (S w → wpAnyH P .any ops (NoPanic Q) S fuel (listed.setIfInBounds l true) a w) → K a w) → if Region.wanted ol (yielded ops a.tmps) = true then Oper.wp P ol a w K (NoPanic Q) else K (a.put ol.dst undef) w) (hr : Region.ready .any ops listed = [i, j, k, l] := by kernel_rfl) (gi : ops[i]? = some oi := by exact opN rfl) (gj : ops[j]? = some oj := by exact opN rfl) (gk : ops[k]? = some ok := by exact opN rfl) (gl : ops[l]? = some ol := by exact opN rfl) : wpAnyH P .any ops (NoPanic Q) S (fuel + 1) listed a w := wpAnyH_ready hr b_23 (AllReadyH.cons gi hi (AllReadyH.cons gj hj (AllReadyH.cons gk hk (AllReadyH.cons gl hl AllReadyH.nil))))
theorem rz5 (i j k l m : Nat) {oi oj ok ol om : Oper} (hi : ∀ K : Act → World → Prop, Shut (∀ a w, S w → (S w → wpAnyH P .any ops (NoPanic Q) S fuel (listed.setIfInBounds i true) a w) → K a w) → if Region.wanted oi (yielded ops a.tmps) = true then Oper.wp P oi a w K (NoPanic Q) else K (a.put oi.dst undef) w) (hj : ∀ K : Act → World → Prop, Shut (∀ a w, S w → (S w → wpAnyH P .any ops (NoPanic Q) S fuel (listed.setIfInBounds j true) a w) → K a w) → if Region.wanted oj (yielded ops a.tmps) = true then Oper.wp P oj a w K (NoPanic Q) else K (a.put oj.dst undef) w) (hk : ∀ K : Act → World → Prop, Shut (∀ a w, S w → (S w → wpAnyH P .any ops (NoPanic Q) S fuel (listed.setIfInBounds k true) a w) → K a w) → if Region.wanted ok (yielded ops a.tmps) = true then Oper.wp P ok a w K (NoPanic Q) else K (a.put ok.dst undef) w) (hl : ∀ K : Act → World → Prop, Shut (∀ a w, S w → (S w → wpAnyH P .any ops (NoPanic Q) S fuel (listed.setIfInBounds l true) a w) → K a w) → if Region.wanted ol (yielded ops a.tmps) = true then Oper.wp P ol a w K (NoPanic Q) else K (a.put ol.dst undef) w) (hm : ∀ K : Act → World → Prop, Shut (∀ a w, S w → (S w → wpAnyH P .any ops (NoPanic Q) S fuel (listed.setIfInBounds m true) a w) → K a w) → if Region.wanted om (yielded ops a.tmps) = true then Oper.wp P om a w K (NoPanic Q) else K (a.put om.dst undef) w) (hr : Region.ready .any ops listed = [i, j, k, l, m] := by kernel_rfl) (gi : ops[i]? = some oi := by exact opN rfl) (gj : ops[j]? = some oj := by exact opN rfl) (gk : ops[k]? = some ok := by exact opN rfl) (gl : ops[l]? = some ol := by exact opN rfl) (gm : ops[m]? = some om := by exact opN rfl) : wpAnyH P .any ops (NoPanic Q) S (fuel + 1) listed a w := wpAnyH_ready hr b_23 (AllReadyH.cons gi hi (AllReadyH.cons gj hj (AllReadyH.cons gk hk (AllReadyH.cons gl hl (AllReadyH.cons gm hm AllReadyH.nil)))))
theorem rz6 (i j k l m n : Nat) {oi oj ok ol om on : Oper} (hi : ∀ K : Act → World → Prop, Shut (∀ a w, S w → (S w → wpAnyH P .any ops (NoPanic Q) S fuel (listed.setIfInBounds i true) a w) → K a w) → if Region.wanted oi (yielded ops a.tmps) = true then Oper.wp P oi a w K (NoPanic Q) else K (a.put oi.dst undef) w) (hj : ∀ K : Act → World → Prop, Shut (∀ a w, S w → (S w → wpAnyH P .any ops (NoPanic Q) S fuel (listed.setIfInBounds j true) a w) → K a w) → if Region.wanted oj (yielded ops a.tmps) = true then Oper.wp P oj a w K (NoPanic Q) else K (a.put oj.dst undef) w) (hk : ∀ K : Act → World → Prop, Shut (∀ a w, S w → (S w → wpAnyH P .any ops (NoPanic Q) S fuel (listed.setIfInBounds k true) a w) → K a w) → if Region.wanted ok (yielded ops a.tmps) = true then Oper.wp P ok a w K (NoPanic Q) else K (a.put ok.dst undef) w) (hl : ∀ K : Act → World → Prop, Shut (∀ a w, S w → (S w → wpAnyH P .any ops (NoPanic Q) S fuel (listed.setIfInBounds l true) a w) → K a w) → if Region.wanted ol (yielded ops a.tmps) = true then Oper.wp P ol a w K (NoPanic Q) else K (a.put ol.dst undef) w) (hm : ∀ K : Act → World → Prop, Shut (∀ a w, S w → (S w → wpAnyH P .any ops (NoPanic Q) S fuel (listed.setIfInBounds m true) a w) → K a w) → if Region.wanted om (yielded ops a.tmps) = true then Oper.wp P om a w K (NoPanic Q) else K (a.put om.dst undef) w) (hn : ∀ K : Act → World → Prop, Shut (∀ a w, S w → (S w → wpAnyH P .any ops (NoPanic Q) S fuel (listed.setIfInBounds n true) a w) → K a w) → if Region.wanted on (yielded ops a.tmps) = true then Oper.wp P on a w K (NoPanic Q) else K (a.put on.dst undef) w) (hr : Region.ready .any ops listed = [i, j, k, l, m, n] := by kernel_rfl) (gi : ops[i]? = some oi := by exact opN rfl) (gj : ops[j]? = some oj := by exact opN rfl) (gk : ops[k]? = some ok := by exact opN rfl) (gl : ops[l]? = some ol := by exact opN rfl) (gm : ops[m]? = some om := by exact opN rfl) (gn : ops[n]? = some on := by exact opN rfl) : wpAnyH P .any ops (NoPanic Q) S (fuel + 1) listed a w := wpAnyH_ready hr b_23 (AllReadyH.cons gi hi (AllReadyH.cons gj hj (AllReadyH.cons gk hk (AllReadyH.cons gl hl (AllReadyH.cons gm hm (AllReadyH.cons gn hn AllReadyH.nil))))))
theorem tkz2 (i j : Nat) {oi oj : Oper} {xi xj : Value} (h : wpAnyH P .any ops (NoPanic Q) S fuel ((listed.setIfInBounds i true).setIfInBounds j true) ((a.put oi.dst xi).put oj.dst xj) w) (hi : ops[i]? = some oi := by exact opN rfl) (bi : (Region.noSelect ops && (Region.free .any ops listed i && (Region.ready .any ops listed).contains i)) = true := by kernel_rfl) (wi : Region.wanted oi (yielded ops a.tmps) = true := by first | (simp only [layz]; rfl) | rfl) (vi : ∀ w, S w → (execOp a.eval oi).run P w = .ok (.value xi) w := by (intro w hSw; (try simp only [layz]); (try dsimp only at hSw); go_simp; first | done | with_reducible rfl)) (hj : ops[j]? = some oj := by exact opN rfl) (bj : (Region.noSelect ops && (Region.free .any ops (listed.setIfInBounds i true) j && (Region.ready .any ops (listed.setIfInBounds i true)).contains j)) = true := by kernel_rfl) (wj : Region.wanted oj (yielded ops (a.put oi.dst xi).tmps) = true := by first | (simp only [layz]; rfl) | rfl) (vj : ∀ w, S w → (execOp (a.put oi.dst xi).eval oj).run P w = .ok (.value xj) w := by (intro w hSw; (try simp only [layz]); (try dsimp only at hSw); go_simp; first | done | with_reducible rfl)) (hS : S w := by assumption) : wpAnyH P .any ops (NoPanic Q) S (fuel + 1 + 1) listed a w := (tk i hi bi wi vi hS (tk j hj bj wj vj hS h))
theorem tkz3 (i j k : Nat) {oi oj ok : Oper} {xi xj xk : Value} (h : wpAnyH P .any ops (NoPanic Q) S fuel (((listed.setIfInBounds i true).setIfInBounds j true).setIfInBounds k true) (((a.put oi.dst xi).put oj.dst xj).put ok.dst xk) w) (hi : ops[i]? = some oi := by exact opN rfl) (bi : (Region.noSelect ops && (Region.free .any ops listed i && (Region.ready .any ops listed).contains i)) = true := by kernel_rfl) (wi : Region.wanted oi (yielded ops a.tmps) = true := by first | (simp only [layz]; rfl) | rfl) (vi : ∀ w, S w → (execOp a.eval oi).run P w = .ok (.value xi) w := by (intro w hSw; (try simp only [layz]); (try dsimp only at hSw); go_simp; first | done | with_reducible rfl)) (hj : ops[j]? = some oj := by exact opN rfl) (bj : (Region.noSelect ops && (Region.free .any ops (listed.setIfInBounds i true) j && (Region.ready .any ops (listed.setIfInBounds i true)).contains j)) = true := by kernel_rfl) (wj : Region.wanted oj (yielded ops (a.put oi.dst xi).tmps) = true := by first | (simp only [layz]; rfl) | rfl) (vj : ∀ w, S w → (execOp (a.put oi.dst xi).eval oj).run P w = .ok (.value xj) w := by (intro w hSw; (try simp only [layz]); (try dsimp only at hSw); go_simp; first | done | with_reducible rfl)) (hk : ops[k]? = some ok := by exact opN rfl) (bk : (Region.noSelect ops && (Region.free .any ops ((listed.setIfInBounds i true).setIfInBounds j true) k && (Region.ready .any ops ((listed.setIfInBounds i true).setIfInBounds j true)).contains k)) = true := by kernel_rfl) (wk : Region.wanted ok (yielded ops ((a.put oi.dst xi).put oj.dst xj).tmps) = true := by first | (simp only [layz]; rfl) | rfl) (vk : ∀ w, S w → (execOp ((a.put oi.dst xi).put oj.dst xj).eval ok).run P w = .ok (.value xk) w := by (intro w hSw; (try simp only [layz]); (try dsimp only at hSw); go_simp; first | done | with_reducible rfl)) (hS : S w := by assumption) : wpAnyH P .any ops (NoPanic Q) S (fuel + 1 + 1 + 1) listed a w := (tk i hi bi wi vi hS (tk j hj bj wj vj hS (tk k hk bk wk vk hS h)))
theorem tkz4 (i j k l : Nat) {oi oj ok ol : Oper} {xi xj xk xl : Value} (h : wpAnyH P .any ops (NoPanic Q) S fuel ((((listed.setIfInBounds i true).setIfInBounds j true).setIfInBounds k true).setIfInBounds l true) ((((a.put oi.dst xi).put oj.dst xj).put ok.dst xk).put ol.dst xl) w) (hi : ops[i]? = some oi := by exact opN rfl) (bi : (Region.noSelect ops && (Region.free .any ops listed i && (Region.ready .any ops listed).contains i)) = true := by kernel_rfl) (wi : Region.wanted oi (yielded ops a.tmps) = true := by first | (simp only [layz]; rfl) | rfl) (vi : ∀ w, S w → (execOp a.eval oi).run P w = .ok (.value xi) w := by (intro w hSw; (try simp only [layz]); (try dsimp only at hSw); go_simp; first | done | with_reducible rfl)) (hj : ops[j]? = some oj := by exact opN rfl) (bj : (Region.noSelect ops && (Region.free .any ops (listed.setIfInBounds i true) j && (Region.ready .any ops (listed.setIfInBounds i true)).contains j)) = true := by kernel_rfl) (wj : Region.wanted oj (yielded ops (a.put oi.dst xi).tmps) = true := by first | (simp only [layz]; rfl) | rfl) (vj : ∀ w, S w → (execOp (a.put oi.dst xi).eval oj).run P w = .ok (.value xj) w := by (intro w hSw; (try simp only [layz]); (try dsimp only at hSw); go_simp; first | done | with_reducible rfl)) (hk : ops[k]? = some ok := by exact opN rfl) (bk : (Region.noSelect ops && (Region.free .any ops ((listed.setIfInBounds i true).setIfInBounds j true) k && (Region.ready .any ops ((listed.setIfInBounds i true).setIfInBounds j true)).contains k)) = true := by kernel_rfl) (wk : Region.wanted ok (yielded ops ((a.put oi.dst xi).put oj.dst xj).tmps) = true := by first | (simp only [layz]; rfl) | rfl) (vk : ∀ w, S w → (execOp ((a.put oi.dst xi).put oj.dst xj).eval ok).run P w = .ok (.value xk) w := by (intro w hSw; (try simp only [layz]); (try dsimp only at hSw); go_simp; first | done | with_reducible rfl)) (hl : ops[l]? = some ol := by exact opN rfl) (bl : (Region.noSelect ops && (Region.free .any ops (((listed.setIfInBounds i true).setIfInBounds j true).setIfInBounds k true) l && (Region.ready .any ops (((listed.setIfInBounds i true).setIfInBounds j true).setIfInBounds k true)).contains l)) = true := by kernel_rfl) (wl : Region.wanted ol (yielded ops (((a.put oi.dst xi).put oj.dst xj).put ok.dst xk).tmps) = true := by first | (simp only [layz]; rfl) | rfl) (vl : ∀ w, S w → (execOp (((a.put oi.dst xi).put oj.dst xj).put ok.dst xk).eval ol).run P w = .ok (.value xl) w := by (intro w hSw; (try simp only [layz]); (try dsimp only at hSw); go_simp; first | done | with_reducible rfl)) (hS : S w := by assumption) : wpAnyH P .any ops (NoPanic Q) S (fuel + 1 + 1 + 1 + 1) listed a w := (tk i hi bi wi vi hS (tk j hj bj wj vj hS (tk k hk bk wk vk hS (tk l hl bl wl vl hS h))))
end
end Go.Proofs.YtidnahocnhcoiaaGreatDoor
